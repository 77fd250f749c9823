/- Texts of this claim, put together: Spec64, Fed, Bv, Narrow, Wide, Ref32, Ref64, Kind, First, Take, TakeOk, End, EndOk, Begin, Parts, Sum, RefSum, Lent, Sums, Open, Laid, EscX, EscY, EscZ, EscZa -/
import Derived.Test.YteomkfcfhlljkaaDoorAllShBaghpkf
import Derived.Test.YteomkfcfhlljkaaDoorAllLawfofmgi
import Derived.Laws.Bits64
import Derived.Test.YteomkfcfhlljkaaDoorAllShfobknc
import Derived.Test.YteomkfcfhlljkaaDoorAllFwmlkaep
import Derived.Deep.Matrix
import Derived.SizedLaws
import Derived.Handed
import Derived.Test.YteomkfcfhlljkaaDoorRows
import Derived.Lib.LaidTab
namespace Go.Sha
open Go.Fw
def rr64(x:Int)(n:Nat):Int:=bits .or .u64 (IntKind.u64.wrap (x*2 ^ (64 - n))) (Int.fdiv x (2 ^ n))
def sch64(x y w16 w7:Int):Int:=
 IntKind.u64.wrap ((IntKind.u64.wrap ((IntKind.u64.wrap (w16+w7))+(bits .xor .u64 (bits .xor .u64 (rr64 x 1) (rr64 x 8)) (Int.fdiv x (2 ^ 7)))))+(bits .xor .u64 (bits .xor .u64 (rr64 y 19) (rr64 y 61)) (Int.fdiv y (2 ^ 6))))
def sh8(v x:Int):Int:=bits .or .u64 (IntKind.u64.wrap (v*2 ^ 8)) (IntKind.u64.wrap x)
def word64(v:Int)(bs:List Int)(o:Nat):Nat→Int
 | 0=>v
 | n+1=>sh8 (word64 v bs o n) (bs.getD (o+n) 0)
def words64(bs:List Int):Nat→List Int
 | 0=>[]
 | n+1=>words64 bs n ++ [word64 0 bs (8*n) 8]
def ext64:Nat→List Int→List Int
 | 0,s=>s
 | n+1,s=>ext64 n (s ++ [sch64 (s.getD (s.length - 15) 0) (s.getD (s.length - 2) 0) (s.getD (s.length - 16) 0) (s.getD (s.length - 7) 0)])
def t1_64(e f g k x w:Int):Int:=
 IntKind.u64.wrap ((IntKind.u64.wrap ((IntKind.u64.wrap ((IntKind.u64.wrap (k+(bits .xor .u64 (bits .xor .u64 (rr64 e 14) (rr64 e 18)) (rr64 e 41))))+(bits .xor .u64 (bits .and .u64 e f) (bits .and .u64 (bits .xor .u64 IntKind.u64.max e) g))))+x))+w)
def t2_64(a b c:Int):Int:=
 IntKind.u64.wrap ((bits .xor .u64 (bits .xor .u64 (rr64 a 28) (rr64 a 34)) (rr64 a 39))+(bits .xor .u64 (bits .xor .u64 (bits .and .u64 a b) (bits .and .u64 a c)) (bits .and .u64 b c)))
def rounds64(W C:List Int):Nat→Nat→Int→Int→Int→Int→Int→Int→Int→Int→V8
 | 0,_,a,b,c,d,e,f,g,k=>(a,b,c,d,e,f,g,k,())
 | n+1,i,a,b,c,d,e,f,g,k=>
  rounds64 W C n (i+1) (IntKind.u64.wrap (t1_64 e f g k (C.getD i 0) (W.getD i 0)+t2_64 a b c)) a b c (IntKind.u64.wrap (d+t1_64 e f g k (C.getD i 0) (W.getD i 0))) e f g
def rv64(C H bs:List Int):V8:=
 rounds64 (ext64 64 (words64 bs 16)) C 80 0 (H.getD 0 0) (H.getD 1 0) (H.getD 2 0) (H.getD 3 0) (H.getD 4 0) (H.getD 5 0) (H.getD 6 0) (H.getD 7 0)
def sum8w(v x:List Int):List Int:=(List.range 8).map fun i=>IntKind.u64.wrap (v.getD i 0+x.getD i 0)
def comp64(C H bs:List Int):List Int:=sum8w H (list8 (rv64 C H bs))
def comps64(C:List Int):Nat→List Int→List Int→List Int
 | 0,H,_=>H
 | n+1,H,bs=>comps64 C n (comp64 C H bs) (bs.drop 128)
theorem K_73(bs:List Int):∀ n,(words64 bs n).length=n
 | 0=>rfl
 | n+1=>by simp[words64,K_73 bs n]
theorem K_no:∀ n s,(ext64 n s).length=s.length+n
 | 0,s=>rfl
 | n+1,s=>by simp[ext64,K_no n];omega
theorem K_fg(C H bs:List Int):(comp64 C H bs).length=8:=by simp[comp64,sum8w]
theorem K_ia(C:List Int):∀ (n:Nat) (H bs:List Int),H.length=8→(comps64 C n H bs).length=8
 | 0,_,_,h=>h
 | n+1,H,bs,_=>K_ia C n _ _ (K_fg C H bs)
theorem K_16t{v x:Int}(hx:InK .u8 x):sh8 v x=(v*256+x) % 18446744073709551616:=by
 obtain⟨b,rfl,hb⟩:=hx.nat
 have hb:b<256:=hb
 unfold sh8
 have e1:IntKind.u64.wrap (b:Int)=(b:Int):=by rw[IntKind.wrap_u64];omega
 obtain⟨q,hq⟩:∃ q:Nat,(v % 72057594037927936)=(q:Int):=Int.eq_ofNat_of_zero_le (Int.emod_nonneg _ (by decide))
 have hq2:q<72057594037927936:=by omega
 have e2:IntKind.u64.wrap (v*2 ^ 8)=((q*256:Nat):Int):=by
  rw[IntKind.wrap_u64]
  have:(v*2 ^ 8:Int)=v*256:=rfl
  rw[this]
  omega
 rw[e1,e2,(K_7x (k:=.u64) rfl (show q*256<2 ^ 64 by omega) (show b<2 ^ 64 by omega)).2.1]
 have e3:q*256 ||| b=q*256+b:=by
  rw[Nat.mul_comm]
  exact(Nat.two_pow_add_eq_or_of_lt (i:=8) hb q).symm
 rw[e3]
 omega
theorem K_10e{bs:List Int}(h:∀ i,InK .u8 (bs.getD i 0))(v:Int)(o:Nat):word64 v bs o 8=word64 0 bs o 8:=by
 simp only[word64,K_16t (h _)]
 omega
end Go.Sha

namespace Go.Sha
open Go.Fw
def narrowB(h:Int):Bool:=h == 224 || h == 256
def blk(h:Int):Nat:=if narrowB h=true then 64 else 128
theorem K_fx(h:Int):0<blk h:=by unfold blk;split <;> decide
theorem K_ox(h:Int):blk h≤128:=by unfold blk;split <;> decide
def compH(h:Int)(C H bs:List Int):List Int:=if narrowB h=true then comp32 C H bs else comp64 C H bs
def compsH(h:Int)(C:List Int)(n:Nat)(H bs:List Int):List Int:=if narrowB h=true then comps32 C n H bs else comps64 C n H bs
theorem K_dr(h:Int)(C H bs:List Int):compsH h C 0 H bs=H:=by unfold compsH;split <;> rfl
theorem K_ds(h:Int)(C:List Int)(n:Nat)(H bs:List Int):compsH h C (n+1) H bs=compsH h C n (compH h C H bs) (bs.drop (blk h)):=by
 unfold compsH compH blk;split <;> rfl
theorem K_103(h:Int)(C:List Int)(n:Nat)(H bs:List Int)(hH:H.length=8):(compsH h C n H bs).length=8:=by
 unfold compsH;split
 ·exact K_ip C n H bs hH
 ·exact K_ia C n H bs hH
theorem K_ml{bs:List Int}(k:Nat)(hk:64≤k):∀ n,n≤16→words32 (bs.take k) n=words32 bs n
 | 0,_=>rfl
 | n+1,hn=>by
  have g:∀ q,q<64→(bs.take k).getD q 0=bs.getD q 0:=fun q hq=>by
   simp[J_gd,List.getElem?_take,show q<k by omega]
  simp only[words32]
  rw[K_ml k hk n (by omega),g _ (by omega),g _ (by omega),g _ (by omega),g _ (by omega)]
theorem K_op{bs:List Int}(k:Nat)(v:Int)(o:Nat):∀ n,o+n≤k→word64 v (bs.take k) o n=word64 v bs o n
 | 0,_=>rfl
 | n+1,hn=>by
  simp only[word64]
  rw[K_op k v o n (by omega)]
  congr 1
  simp[J_gd,List.getElem?_take,show o+n<k by omega]
theorem K_me{bs:List Int}(k:Nat)(hk:128≤k):∀ n,n≤16→words64 (bs.take k) n=words64 bs n
 | 0,_=>rfl
 | n+1,hn=>by
  simp only[words64]
  rw[K_me k hk n (by omega),K_op k 0 (8*n) 8 (by omega)]
theorem K_y9(h:Int)(C H bs:List Int)(k:Nat)(hk:blk h≤k):compH h C H (bs.take k)=compH h C H bs:=by
 unfold compH blk at*
 split
 ·rename_i hn
  rw[if_pos hn]at hk
  unfold comp32 rv32
  rw[K_ml k hk 16 (Nat.le_refl _)]
 ·rename_i hn
  rw[if_neg hn]at hk
  unfold comp64 rv64
  rw[K_me k hk 16 (Nat.le_refl _)]
theorem K_99(h:Int)(C:List Int):∀ (n:Nat) (H bs:List Int) (k:Nat),n*blk h≤k→compsH h C n H (bs.take k)=compsH h C n H bs
 | 0,H,bs,k,_=>by rw[K_dr,K_dr]
 | n+1,H,bs,k,hk=>by
  have h1:(n+1)*blk h=n*blk h+blk h:=Nat.succ_mul n _
  rw[K_ds,K_ds,K_y9 h C H bs k (by omega),List.drop_take,K_99 h C n _ _ (k - blk h) (by omega)]
theorem K_m7(h:Int)(C:List Int):∀ (n m:Nat) (H bs:List Int),compsH h C (n+m) H bs=compsH h C m (compsH h C n H bs) (bs.drop (n*blk h))
 | 0,m,H,bs=>by rw[K_dr,Nat.zero_add,Nat.zero_mul,List.drop_zero]
 | n+1,m,H,bs=>by
  rw[show n+1+m=(n+m)+1 by omega,K_ds,K_ds,K_m7 h C n m,List.drop_drop,Nat.succ_mul,Nat.add_comm (blk h)]
structure Fed(h:Int) (C H0 xs:List Int) (H half:List Int):Prop where
 words:H=compsH h C (xs.length / blk h) H0 xs
 held:half.take (xs.length % blk h)=xs.drop (xs.length / blk h*blk h)
 len:half.length=128
theorem Fed.start(h:Int)(C H0:List Int):Fed h C H0 [] H0 (List.replicate 128 0):=by
 refine⟨?_,?_,by simp⟩
 ·simp[K_dr]
 ·simp
def over(l:List Int)(o:Nat)(ys:List Int):List Int:=l.take o ++ ys ++ l.drop (o+ys.length)
theorem K_kw{l ys:List Int}{o:Nat}(h:o+ys.length≤l.length):(over l o ys).length=l.length:=by
 simp[over];omega
theorem K_lb{l ys:List Int}{o:Nat}(h:o+ys.length≤l.length):(over l o ys).take (o+ys.length)=l.take o ++ ys:=by
 unfold over
 rw[List.take_append_of_le_length (by simp;omega),List.take_of_length_le (by simp;omega)]
theorem K_10d{n m b:Nat}(hb:0<b)(h:n % b+m<b):(n+m) / b=n / b∧(n+m) % b=n % b+m:=by
 have h1:=Nat.div_add_mod n b
 have h2:n+m=n % b+m+b*(n / b):=by omega
 constructor
 ·rw[h2,Nat.add_mul_div_left _ _ hb,Nat.div_eq_of_lt h,Nat.zero_add]
 ·rw[h2,Nat.add_mul_mod_self_left,Nat.mod_eq_of_lt h]
theorem Fed.less{h:Int}{C H0 xs H half ys:List Int}(f:Fed h C H0 xs H half)(hl:xs.length % blk h+ys.length<blk h):Fed h C H0 (xs ++ ys) H (over half (xs.length % blk h) ys):=by
 have hb:=K_ox h
 obtain⟨d1,d2⟩:=K_10d (K_fx h) hl
 have hle:xs.length / blk h*blk h≤xs.length:=Nat.div_mul_le_self _ _
 refine⟨?_,?_,by rw[K_kw (by rw[f.len];omega)];exact f.len⟩
 ·rw[List.length_append,d1,f.words]
  have:=K_99 h C (xs.length / blk h) H0 (xs ++ ys) xs.length hle
  rw[List.take_left]at this
  exact this
 ·rw[List.length_append,d1,d2,K_lb (by rw[f.len];omega),f.held,List.drop_append_of_le_length hle]
theorem Fed.fill{h:Int}{C H0 xs H half ys:List Int}(f:Fed h C H0 xs H half)(hl:xs.length % blk h+ys.length=blk h):
  Fed h C H0 (xs ++ ys) (compsH h C 1 H ((over half (xs.length % blk h) ys).take (blk h))) (over half (xs.length % blk h) ys):=by
 have hb:=K_ox h
 have hp:=K_fx h
 have h1:=Nat.div_add_mod xs.length (blk h)
 have h2:xs.length+ys.length=(xs.length / blk h+1)*blk h:=by rw[Nat.succ_mul,Nat.mul_comm];omega
 have d1:(xs.length+ys.length) / blk h=xs.length / blk h+1:=by rw[h2];exact Nat.mul_div_cancel _ hp
 have d2:(xs.length+ys.length) % blk h=0:=by rw[h2];exact Nat.mul_mod_left _ _
 have hle:xs.length / blk h*blk h≤xs.length:=Nat.div_mul_le_self _ _
 refine⟨?_,?_,by rw[K_kw (by rw[f.len];omega)];exact f.len⟩
 ·rw[List.length_append,d1,K_m7,f.words]
  have e1:=K_99 h C (xs.length / blk h) H0 (xs ++ ys) xs.length hle
  rw[List.take_left]at e1
  rw[←e1]
  congr 1
  have e2:=K_lb (l:=half) (ys:=ys) (o:=xs.length % blk h) (by rw[f.len];omega)
  rw[hl]at e2
  rw[e2,f.held,List.drop_append_of_le_length hle]
 ·rw[List.length_append,d1,d2]
  simp
  omega
theorem Fed.whole{h:Int}{C H0 xs H half ys:List Int}(f:Fed h C H0 xs H half)(hz:xs.length % blk h=0):
  Fed h C H0 (xs ++ ys) (compsH h C (ys.length / blk h) H (ys.take (ys.length / blk h*blk h))) (over half 0 (ys.drop (ys.length / blk h*blk h))):=by
 have hb:=K_ox h
 have hp:=K_fx h
 have h1:=Nat.div_add_mod xs.length (blk h)
 have hx:xs.length=xs.length / blk h*blk h:=by rw[Nat.mul_comm];omega
 have d1:(xs.length+ys.length) / blk h=xs.length / blk h+ys.length / blk h:=by
  have:xs.length+ys.length=ys.length+blk h*(xs.length / blk h):=by omega
  rw[this,Nat.add_mul_div_left _ _ hp,Nat.add_comm]
 have d2:(xs.length+ys.length) % blk h=ys.length % blk h:=by
  have:xs.length+ys.length=ys.length+blk h*(xs.length / blk h):=by omega
  rw[this,Nat.add_mul_mod_self_left]
 have hyl:=Nat.div_add_mod ys.length (blk h)
 have hym:=Nat.mod_lt ys.length hp
 have hyle:ys.length / blk h*blk h≤ys.length:=Nat.div_mul_le_self _ _
 have hrl:(ys.drop (ys.length / blk h*blk h)).length=ys.length % blk h:=by
  rw[List.length_drop]
  have:blk h*(ys.length / blk h)=ys.length / blk h*blk h:=Nat.mul_comm _ _
  omega
 refine⟨?_,?_,by rw[K_kw (by rw[hrl,f.len];omega)];exact f.len⟩
 ·rw[List.length_append,d1,K_m7,f.words]
  have e1:=K_99 h C (xs.length / blk h) H0 (xs ++ ys) xs.length (by omega)
  rw[List.take_left]at e1
  rw[←e1,K_99 h C _ _ ys _ (Nat.le_refl _)]
  congr 1
  rw[←hx,List.drop_left]
 ·rw[List.length_append,d1,d2]
  have:=K_lb (l:=half) (ys:=ys.drop (ys.length / blk h*blk h)) (o:=0) (by rw[hrl,f.len];omega)
  rw[hrl,Nat.zero_add]at this
  rw[this,List.take_zero,List.nil_append,Nat.add_mul,←hx,List.drop_append]
  simp
end Go.Sha

namespace Go.Sha
open Go.Fw
end Go.Sha

set_option linter.unusedVariables false
namespace Go.Sh
open Go.Fw Go.Sha Go.RowKit Go.Proofs.Tryd
theorem K_11v:∀ n:Nat,n<32→0<n→bits .and .u64 (IntKind.u64.wrap (-(n:Int))) 31=((32 - n:Nat):Int):=by decide+kernel
theorem RL32(x:Int){n:Nat}(h0:0<n)(h1:n<32):K_4 x (-(n:Int))=some (rr32 x n,()):=by
 have e1:=K_11v n h1 h0
 have e2:IntKind.u64.wrap (32 - ((32 - n:Nat):Int))=(n:Int):=by rw[IntKind.wrap_u64];omega
 have m1:min (32 - n) IntKind.u32.bits=32 - n:=Nat.min_eq_left (by simp only[IntKind.bits];omega)
 have m2:min n IntKind.u32.bits=n:=Nat.min_eq_left (by simp only[IntKind.bits];omega)
 unfold K_4
 rw[e1,e2]
 simp only[J_tn,m1,m2,Int.natCast_nonneg,if_true,rr32]
theorem K_z8(p:Addr)(a b:Nat):(p.add a).add b=p.add (a+b):=by
 unfold Addr.add
 by_cases h1:a=0 <;> by_cases h2:b=0 <;> simp[h1,h2,Nat.add_assoc]
theorem rdD{κ:IntKind}{w:World}{s:Sl}{zs:List Int}(h:RdS κ w s zs):∃ p,(zs≠[]→s.a=some p)∧∀ i,i<zs.length→ldI κ (p.add i) w=some (zs.getD i 0):=by
 obtain⟨p,h1,h2⟩:=h.ld
 refine⟨p,h1,fun i hi=>?_⟩
 rw[h2 i hi,J_gd,J_ge hi];rfl
theorem K_6x{κ:IntKind}{cs:List Value}{xs:List Int}{i:Nat}(h:cs.take xs.length=ints κ xs)(hi:i<xs.length):cs[i]? =some (.int κ (xs.getD i 0)):=by
 have h1:(cs.take xs.length)[i]? =(ints κ xs)[i]?:=by rw[h]
 rw[List.getElem?_take,if_pos hi]at h1
 rw[h1,J_gd,J_ge hi]
 simp[ints,hi]
theorem K_ei{κ:IntKind}{cs:List Value}{xs:List Int}(h:cs.take xs.length=ints κ xs)(hl:xs.length<cs.length)(x:Int):
  (cs.set xs.length (.int κ x)).take (xs ++ [x]).length=ints κ (xs ++ [x]):=by
 rw[K_3i,←h]
 simp only[List.length_append,List.length_cons,List.length_nil,Nat.zero_add]
 rw[List.take_add_one,List.take_set_of_le (Nat.le_refl _)]
 simp[hl]
theorem K_10r(K:Nat)(h0:Option Addr){b:Sl}{bs:List Int}(hbl:64≤bs.length)(hlim:bs.length≤140737488355328){gw:Nat}(hne:∀ p,b.a=some p→p.block≠gw):
  ∀ (d i n:Nat) (w:World) (cs:List Value),i+d=16→d<n→RdS .u8 w b bs→Bk 174 w gw cs→cs.length=64→cs.take i=ints .u32 (words32 bs i)→
   ∃ w' cs',K_20 K n h0 b ⟨gw,0,none⟩ (i:Int) w=some ((),w')∧Bk 174 w' gw cs'∧cs'.length=64∧cs'.take 16=ints .u32 (words32 bs 16)∧Upd (· =gw) w w':=by
 intro d
 induction d with
 | zero=>
  intro i n w cs hi hn hr hb hc ht
  obtain⟨n,rfl⟩:∃ m,n=m+1:=⟨n - 1,by omega⟩
  have:i=16:=by omega
  subst this
  refine⟨w,cs,?_,hb,hc,ht,Upd.refl _ _⟩
  show K_4v K (K_20 K n) h0 b ⟨gw,0,none⟩ ((16:Nat):Int) w=_
  simp[K_4v]
 | succ d ih=>
  intro i n w cs hi hn hr hb hc ht
  obtain⟨n,rfl⟩:∃ m,n=m+1:=⟨n - 1,by omega⟩
  have hbn:bs≠[]:=fun e=>by rw[e]at hbl;simp at hbl
  obtain⟨p,hp,hl⟩:=rdD hr.drew
  have hcap:=hr.cap
  have hlen:=hr.len
  have hd:decide ((i:Int)<16)=true:=by simp;omega
  have e4:IntKind.i64.wrap (4*(i:Int))=((4*i:Nat):Int):=by rw[w64 (by omega) (by omega)];omega
  have e44:IntKind.i64.wrap (((4*i:Nat):Int)+4)=((4*i+4:Nat):Int):=by rw[w64 (by omega) (by omega)];omega
  have e1:IntKind.i64.wrap ((i:Int)+1)=((i+1:Nat):Int):=by rw[w64 (by omega) (by omega)];rfl
  have c1:(0:Int)≤((4*i+4:Nat):Int)∧((4*i+4:Nat):Int)≤((b.cap:Nat):Int):=by omega
  have c2:(0:Int)≤((4*i:Nat):Int)∧((4*i:Nat):Int)≤((4*i+4:Nat):Int):=by omega
  have e5:4*i+4 - 4*i=4:=by omega
  have hsl:sla b.a (4*i) b.cap 1=some (p.add (4*i)):=by
   have:b.cap≠4*i:=by omega
   simp[sla,hp hbn,this]
  have l0:=hl (4*i) (by omega)
  have l1:=hl (4*i+1) (by omega)
  have l2:=hl (4*i+2) (by omega)
  have l3:=hl (4*i+3) (by omega)
  have c3:(0:Int)≤(i:Int)∧(i:Int)<((64:Nat):Int):=by omega
  have k0:(0:Int)≤0∧(0:Int)<((4:Nat):Int):=by decide
  have k1:(0:Int)≤1∧(1:Int)<((4:Nat):Int):=by decide
  have k2:(0:Int)≤2∧(2:Int)<((4:Nat):Int):=by decide
  have k3:(0:Int)≤3∧(3:Int)<((4:Nat):Int):=by decide
  obtain⟨w1,s1,s2,s3⟩:=hb.drew.stC (i:=i) (by omega) (.int .u32 (word32 (bs.getD (4*i) 0) (bs.getD (4*i+1) 0) (bs.getD (4*i+2) 0) (bs.getD (4*i+3) 0)))
  have s1':stC ((⟨gw,0,none⟩:Addr).add (i*1)) (.int .u32 (word32 (bs.getD (4*i) 0) (bs.getD (4*i+1) 0) (bs.getD (4*i+2) 0) (bs.getD (4*i+3) 0))) w.drew=some w1:=by
   rw[add_lit,Nat.mul_one,Nat.zero_add];exact s1
  have ht':cs.take (words32 bs i).length=ints .u32 (words32 bs i):=by rw[K_2o];exact ht
  have hfs:=K_ei ht' (by rw[K_2o];omega) (word32 (bs.getD (4*i) 0) (bs.getD (4*i+1) 0) (bs.getD (4*i+2) 0) (bs.getD (4*i+3) 0))
  rw[K_2o]at hfs
  have hfs':(cs.set i (.int .u32 (word32 (bs.getD (4*i) 0) (bs.getD (4*i+1) 0) (bs.getD (4*i+2) 0) (bs.getD (4*i+3) 0)))).take (i+1)=ints .u32 (words32 bs (i+1)):=by
   have:(words32 bs i ++ [word32 (bs.getD (4*i) 0) (bs.getD (4*i+1) 0) (bs.getD (4*i+2) 0) (bs.getD (4*i+3) 0)]).length=i+1:=by simp[K_2o]
   rw[this]at hfs;exact hfs
  obtain⟨w2,cs2,h1,h2,h3,h4,h5⟩:=ih (i+1) n w1 _ (by omega) (by omega) (hr.drew.upd s3 (fun q hq e=>hne q hq e)) s2 (by simpa using hc) hfs'
  refine⟨w2,cs2,?_,h2,h3,h4,(s3.predrew).trans' h5 fun _ _ e=>e⟩
  show K_4v K (K_20 K n) h0 b ⟨gw,0,none⟩ (i:Int) w=_
  unfold K_4v
  rw[hd,if_pos rfl,e4,e44]
  simp only[J_tn,e5]
  rw[if_pos c1,if_pos c2,hsl]
  simp only[J_bs]
  rw[if_pos k0,if_pos k1,if_pos k2,if_pos k3]
  simp only[K_z8,Nat.zero_mul,Nat.one_mul,Nat.add_zero,Nat.reduceMul,l0,l1,l2,l3,J_bs]
  rw[if_pos c3]
  show (stC ((⟨gw,0,none⟩:Addr).add (i*1)) (.int .u32 (word32 (bs.getD (4*i) 0) (bs.getD (4*i+1) 0) (bs.getD (4*i+2) 0) (bs.getD (4*i+3) 0))) w.drew).bind _=_
  rw[s1',J_bs,e1,h1]
theorem K_10z(K:Nat)(h0:Option Addr){b:Sl}{gw:Nat}:
  ∀ (d n:Nat) (w:World) (cs:List Value) (S:List Int),S.length+d=64→16≤S.length→d<n→Bk 174 w gw cs→cs.length=64→cs.take S.length=ints .u32 S→
   ∃ w' cs',K_23 K n h0 b ⟨gw,0,none⟩ ((S.length:Nat):Int) w=some ((),w')∧Bk 174 w' gw cs'∧cs'=ints .u32 (ext32 d S)∧Upd (· =gw) w w':=by
 intro d
 induction d with
 | zero=>
  intro n w cs S hi h16 hn hb hc ht
  obtain⟨n,rfl⟩:∃ m,n=m+1:=⟨n - 1,by omega⟩
  have hS:S.length=64:=by omega
  refine⟨w,cs,?_,hb,?_,Upd.refl _ _⟩
  ·show K_4i K (K_23 K n) h0 b ⟨gw,0,none⟩ ((S.length:Nat):Int) w=_
   rw[hS]
   simp[K_4i]
  ·rw[hS,List.take_of_length_le (by omega)]at ht;exact ht
 | succ d ih=>
  intro n w cs S hi h16 hn hb hc ht
  obtain⟨n,rfl⟩:∃ m,n=m+1:=⟨n - 1,by omega⟩
  have hd:decide (((S.length:Nat):Int)<64)=true:=by simp;omega
  have e15:IntKind.i64.wrap (((S.length:Nat):Int) - 15)=((S.length - 15:Nat):Int):=by rw[w64 (by omega) (by omega)];omega
  have e2:IntKind.i64.wrap (((S.length:Nat):Int) - 2)=((S.length - 2:Nat):Int):=by rw[w64 (by omega) (by omega)];omega
  have e16:IntKind.i64.wrap (((S.length:Nat):Int) - 16)=((S.length - 16:Nat):Int):=by rw[w64 (by omega) (by omega)];omega
  have e7:IntKind.i64.wrap (((S.length:Nat):Int) - 7)=((S.length - 7:Nat):Int):=by rw[w64 (by omega) (by omega)];omega
  have e1:IntKind.i64.wrap (((S.length:Nat):Int)+1)=((S.length+1:Nat):Int):=by rw[w64 (by omega) (by omega)];rfl
  have c15:(0:Int)≤((S.length - 15:Nat):Int)∧((S.length - 15:Nat):Int)<((64:Nat):Int):=by omega
  have c2:(0:Int)≤((S.length - 2:Nat):Int)∧((S.length - 2:Nat):Int)<((64:Nat):Int):=by omega
  have c16:(0:Int)≤((S.length - 16:Nat):Int)∧((S.length - 16:Nat):Int)<((64:Nat):Int):=by omega
  have c7:(0:Int)≤((S.length - 7:Nat):Int)∧((S.length - 7:Nat):Int)<((64:Nat):Int):=by omega
  have c0:(0:Int)≤((S.length:Nat):Int)∧((S.length:Nat):Int)<((64:Nat):Int):=by omega
  have l15:=hb.drew.ldI (K_6x ht (i:=S.length - 15) (by omega))
  have l2:=hb.drew.ldI (K_6x ht (i:=S.length - 2) (by omega))
  have l16:=hb.drew.drew.ldI (K_6x ht (i:=S.length - 16) (by omega))
  have l7:=hb.drew.drew.ldI (K_6x ht (i:=S.length - 7) (by omega))
  have r7:=RL32 (S.getD (S.length - 15) 0) (n:=7) (by decide) (by decide)
  have r18:=RL32 (S.getD (S.length - 15) 0) (n:=18) (by decide) (by decide)
  have r17:=RL32 (S.getD (S.length - 2) 0) (n:=17) (by decide) (by decide)
  have r19:=RL32 (S.getD (S.length - 2) 0) (n:=19) (by decide) (by decide)
  have r7:K_4 (S.getD (S.length - 15) 0) (-7)=some (rr32 (S.getD (S.length - 15) 0) 7,()):=r7
  have r18:K_4 (S.getD (S.length - 15) 0) (-18)=some (rr32 (S.getD (S.length - 15) 0) 18,()):=r18
  have r17:K_4 (S.getD (S.length - 2) 0) (-17)=some (rr32 (S.getD (S.length - 2) 0) 17,()):=r17
  have r19:K_4 (S.getD (S.length - 2) 0) (-19)=some (rr32 (S.getD (S.length - 2) 0) 19,()):=r19
  let x:=sch32 (S.getD (S.length - 15) 0) (S.getD (S.length - 2) 0) (S.getD (S.length - 16) 0) (S.getD (S.length - 7) 0)
  obtain⟨w1,s1,s2,s3⟩:=hb.drew.drew.stC (i:=S.length) (by omega) (.int .u32 x)
  have s1':stC ((⟨gw,0,none⟩:Addr).add (S.length*1)) (.int .u32 x) w.drew.drew=some w1:=by rw[add_lit,Nat.mul_one,Nat.zero_add];exact s1
  have hfs:=K_ei ht (by omega) x
  have hSl:(S ++ [x]).length=S.length+1:=by simp
  obtain⟨w2,cs2,h1,h2,h3,h5⟩:=ih n w1 _ (S ++ [x]) (by rw[hSl];omega) (by rw[hSl];omega) (by omega) s2 (by simpa using hc) hfs
  rw[hSl]at h1
  refine⟨w2,cs2,?_,h2,by rw[h3];rfl,(s3.predrew.predrew).trans' h5 fun _ _ e=>e⟩
  show K_4i K (K_23 K n) h0 b ⟨gw,0,none⟩ ((S.length:Nat):Int) w=_
  unfold K_4i
  rw[hd,if_pos rfl,e15,e2,e16,e7]
  simp only[J_tn]
  rw[if_pos c15,if_pos c2]
  simp only[add_lit,Nat.mul_one,Nat.zero_add]
  rw[l15,J_bs,l2,J_bs,if_pos c16,if_pos c7,l16,J_bs,l7,J_bs,r7,J_bs,r18,J_bs,r17,J_bs,r19,J_bs,if_pos c0]
  show (stC ⟨gw,S.length,none⟩ (.int .u32 x) w.drew.drew).bind _=_
  rw[s1,J_bs,e1,h1]
theorem K_wt{κ:IntKind}{cs:List Value}{xs:List Int}{o i:Nat}(h:(cs.drop o).take xs.length=ints κ xs)(hi:i<xs.length):cs[o+i]? =some (.int κ (xs.getD i 0)):=by
 have:=K_6x h hi
 rwa [List.getElem?_drop]at this
theorem K_12b(K:Nat){gh oh gv:Nat}{b:Sl}{w4:Addr}{eh:TypeId}{H:List Int}(hH:H.length=8){ch:List Value}(hne:gh≠gv)(hAt:(ch.drop oh).take 8=ints .u64 H):
  ∀ (d i n:Nat) (w:World) (cs:List Value),i+d=8→d<n→Bk eh w gh ch→Bk 176 w gv cs→cs.length=8→cs.take i=ints .u32 ((H.map IntKind.u32.wrap).take i)→
   ∃ w',K_1z K n (some ⟨gh,oh,none⟩) b w4 ⟨gv,0,none⟩ (i:Int) w=some ((),w')∧Bk 176 w' gv (ints .u32 (H.map IntKind.u32.wrap))∧Upd (· =gv) w w':=by
 intro d
 induction d with
 | zero=>
  intro i n w cs hi hn hbh hb hc ht
  obtain⟨n,rfl⟩:∃ m,n=m+1:=⟨n - 1,by omega⟩
  have:i=8:=by omega
  subst this
  rw[List.take_of_length_le (by omega),List.take_of_length_le (by simp[hH])]at ht
  refine⟨w,?_,ht ▸ hb,Upd.refl _ _⟩
  show K_4j K (K_1z K n) (some ⟨gh,oh,none⟩) b w4 ⟨gv,0,none⟩ ((8:Nat):Int) w=_
  simp[K_4j]
 | succ d ih=>
  intro i n w cs hi hn hbh hb hc ht
  obtain⟨n,rfl⟩:∃ m,n=m+1:=⟨n - 1,by omega⟩
  have hd:decide ((i:Int)<8)=true:=by simp;omega
  have e1:IntKind.i64.wrap ((i:Int)+1)=((i+1:Nat):Int):=by rw[w64 (by omega) (by omega)];rfl
  have c0:(0:Int)≤(i:Int)∧(i:Int)<((8:Nat):Int):=by omega
  have hAt':(ch.drop oh).take H.length=ints .u64 H:=by rw[hH];exact hAt
  have l0:=hbh.ldI (K_wt hAt' (i:=i) (by omega))
  obtain⟨w1,s1,s2,s3⟩:=hb.stC (i:=i) (by omega) (.int .u32 (IntKind.u32.wrap (H.getD i 0)))
  have hlen:((H.map IntKind.u32.wrap).take i).length=i:=by simp[hH];omega
  have ht':cs.take ((H.map IntKind.u32.wrap).take i).length=ints .u32 ((H.map IntKind.u32.wrap).take i):=by rw[hlen];exact ht
  have hfs:=K_ei ht' (by rw[hlen];omega) (IntKind.u32.wrap (H.getD i 0))
  have hstep:(H.map IntKind.u32.wrap).take i ++ [IntKind.u32.wrap (H.getD i 0)]=(H.map IntKind.u32.wrap).take (i+1):=by
   have hi8:i<H.length:=by omega
   rw[List.take_add_one,List.getElem?_map,J_ge hi8,J_gd,J_ge hi8]
   rfl
  rw[hlen,hstep]at hfs
  have hfs':(cs.set i (.int .u32 (IntKind.u32.wrap (H.getD i 0)))).take (i+1)=ints .u32 ((H.map IntKind.u32.wrap).take (i+1)):=by
   have:((H.map IntKind.u32.wrap).take (i+1)).length=i+1:=by simp[hH];omega
   rw[this]at hfs;exact hfs
  obtain⟨w2,h1,h2,h3⟩:=ih (i+1) n w1 _ (by omega) (by omega) (hbh.upd s3 hne) s2 (by simpa using hc) hfs'
  refine⟨w2,?_,h2,s3.trans' h3 fun _ _ e=>e⟩
  show K_4j K (K_1z K n) (some ⟨gh,oh,none⟩) b w4 ⟨gv,0,none⟩ (i:Int) w=_
  unfold K_4j
  rw[hd,if_pos rfl,J_bs,if_pos c0]
  simp only[J_tn,add_lit,Nat.mul_one,Nat.zero_add]
  rw[l0,J_bs,if_pos c0,s1,J_bs,e1,h1]
theorem K_11c(K:Nat){h0:Option Addr}{b:Sl}{gw:Nat}{v10:Addr}{W C:List Int}(hW:W.length=64)(hC:C.length=80):
  ∀ (m i n:Nat) (w:World) (a b1 c d e f g k:Int),i+m=64→m<n→Bk 174 w gw (ints .u32 W)→Rd w ⟨3,0,none⟩ (ints .u64 C)→
   ∃ w',K_21 K n h0 b ⟨gw,0,none⟩ v10 a b1 c d e f g k (i:Int) w=some (rounds32 W C m i a b1 c d e f g k,w')∧Upd none_ w w':=by
 intro m
 induction m with
 | zero=>
  intro i n w a b1 c d e f g k hi hn hb hr
  obtain⟨n,rfl⟩:∃ m,n=m+1:=⟨n - 1,by omega⟩
  have:i=64:=by omega
  subst this
  refine⟨w,?_,Upd.refl _ _⟩
  show K_4n K (K_21 K n) h0 b ⟨gw,0,none⟩ v10 a b1 c d e f g k ((64:Nat):Int) w=_
  simp[K_4n,rounds32]
 | succ m ih=>
  intro i n w a b1 c d e f g k hi hn hb hr
  obtain⟨n,rfl⟩:∃ m,n=m+1:=⟨n - 1,by omega⟩
  have hd:decide ((i:Int)<64)=true:=by simp;omega
  have e1:IntKind.i64.wrap ((i:Int)+1)=((i+1:Nat):Int):=by rw[w64 (by omega) (by omega)];rfl
  have c80:(0:Int)≤(i:Int)∧(i:Int)<((80:Nat):Int):=by omega
  have c64:(0:Int)≤(i:Int)∧(i:Int)<((64:Nat):Int):=by omega
  have l0:ldI .u64 ⟨3,i,none⟩ w=some (C.getD i 0):=by
   have:=hr i (.int .u64 (C.getD i 0)) (by simp[ints,J_gd,show i<C.length by omega])
   rw[add_lit,Nat.zero_add]at this
   simp[ldI,this,asI]
  have l1:ldI .u32 ⟨gw,i,none⟩ w.drew=some (W.getD i 0):=hb.drew.ldI (by simp[ints,J_gd,show i<W.length by omega])
  have r6:K_4 e (-6)=some (rr32 e 6,()):=RL32 e (n:=6) (by decide) (by decide)
  have r11:K_4 e (-11)=some (rr32 e 11,()):=RL32 e (n:=11) (by decide) (by decide)
  have r25:K_4 e (-25)=some (rr32 e 25,()):=RL32 e (n:=25) (by decide) (by decide)
  have r2:K_4 a (-2)=some (rr32 a 2,()):=RL32 a (n:=2) (by decide) (by decide)
  have r13:K_4 a (-13)=some (rr32 a 13,()):=RL32 a (n:=13) (by decide) (by decide)
  have r22:K_4 a (-22)=some (rr32 a 22,()):=RL32 a (n:=22) (by decide) (by decide)
  obtain⟨w1,h1,h2⟩:=ih (i+1) n w.drew (IntKind.u32.wrap (t1_32 e f g k (IntKind.u32.wrap (Int.fdiv (C.getD i 0) (2 ^ 32))) (W.getD i 0)+t2_32 a b1 c)) a b1 c
   (IntKind.u32.wrap (d+t1_32 e f g k (IntKind.u32.wrap (Int.fdiv (C.getD i 0) (2 ^ 32))) (W.getD i 0))) e f g (by omega) (by omega) hb.drew (hr.upd (S:=none_) (Upd.refl _ _).drew fun _=>id)
  refine⟨w1,?_,h2.predrew⟩
  show K_4n K (K_21 K n) h0 b ⟨gw,0,none⟩ v10 a b1 c d e f g k (i:Int) w=_
  unfold K_4n
  rw[hd,if_pos rfl,if_pos c80]
  simp only[J_tn,add_lit,Nat.mul_one,Nat.zero_add]
  rw[l0,J_bs,if_pos c64,r6,J_bs,r11,J_bs,r25,J_bs,l1,J_bs,r2,J_bs,r13,J_bs,r22,J_bs,e1]
  exact h1
theorem built176(x0 x1 x2 x3 x4 x5 x6 x7:Int):prog.built 176 [(0,(.int .u32 x0)),(1,(.int .u32 x1)),(2,(.int .u32 x2)),(3,(.int .u32 x3)),(4,(.int .u32 x4)),(5,(.int .u32 x5)),(6,(.int .u32 x6)),(7,(.int .u32 x7))] =
  some (ints .u32 [x0,x1,x2,x3,x4,x5,x6,x7]).toArray:=by kernel_rfl
theorem K_xl{cs vs:List Value}{o:Nat}(h:o+vs.length<cs.length)(v:Value):(seg cs o vs).set (o+vs.length) v=seg cs o (vs ++ [v]):=by
 apply List.ext_getElem?
 intro i
 rw[List.getElem?_set,K_r (by omega),K_10 (by omega),K_10 (by simp;omega)]
 simp only[List.length_append,List.length_cons,List.length_nil,Nat.zero_add]
 by_cases h1:o+vs.length=i
 ·subst h1
  rw[if_pos rfl,if_pos h,if_neg (by omega),if_pos (by omega)]
  simp
 ·rw[if_neg h1]
  by_cases h2:i<o
  ·simp[h2]
  ·rw[if_neg h2,if_neg h2]
   by_cases h3:i<o+vs.length
   ·rw[if_pos h3,if_pos (by omega),List.getElem?_append_left (by omega)]
   ·rw[if_neg h3,if_neg (by omega)]
theorem K_tx(cs:List Value)(o:Nat):seg cs o []=cs:=by simp[seg]
theorem K_117(K:Nat){gh oh gv:Nat}{b:Sl}{w4:Addr}{eh:TypeId}{v x:List Int}(hv:v.length=8)(hx:x.length=8){ch:List Value}(hne:gh≠gv)(hch:oh+8≤ch.length):
  ∀ (d i n:Nat) (w:World),i+d=8→d<n→Bk eh w gh (seg ch oh (ints .u64 ((sum8 v x).take i)))→Bk 176 w gv (ints .u32 v)→
   ∃ w',K_1x K n (some ⟨gh,oh,none⟩) b w4 ⟨gv,0,none⟩ (ints .u32 x).toArray (i:Int) w=some ((),w')∧
    Bk eh w' gh (seg ch oh (ints .u64 (sum8 v x)))∧Upd (· =gh) w w':=by
 intro d
 induction d with
 | zero=>
  intro i n w hi hn hb hbv
  obtain⟨n,rfl⟩:∃ m,n=m+1:=⟨n - 1,by omega⟩
  have:i=8:=by omega
  subst this
  rw[List.take_of_length_le (by simp[sum8])]at hb
  refine⟨w,?_,hb,Upd.refl _ _⟩
  show K_4u K (K_1x K n) (some ⟨gh,oh,none⟩) b w4 ⟨gv,0,none⟩ (ints .u32 x).toArray ((8:Nat):Int) w=_
  simp[K_4u]
 | succ d ih=>
  intro i n w hi hn hb hbv
  obtain⟨n,rfl⟩:∃ m,n=m+1:=⟨n - 1,by omega⟩
  have hd:decide ((i:Int)<8)=true:=by simp;omega
  have e1:IntKind.i64.wrap ((i:Int)+1)=((i+1:Nat):Int):=by rw[w64 (by omega) (by omega)];rfl
  have c0:(0:Int)≤(i:Int)∧(i:Int)<((8:Nat):Int):=by omega
  have hxi:i<x.length:=by omega
  have hvi:i<v.length:=by omega
  have hg:(ints .u32 x).toArray[i]? =some (.int .u32 (x.getD i 0)):=by
   rw[List.getElem?_toArray];simp[ints,J_gd,hxi]
  have l0:ldI .u32 ⟨gv,i,none⟩ w.drew=some (v.getD i 0):=hbv.drew.ldI (by simp[ints,J_gd,hvi])
  let out:=sum8 v x
  have hol:(ints .u64 (out.take i)).length=i:=by simp[ints,out,sum8];omega
  have hsl:(seg ch oh (ints .u64 (out.take i))).length=ch.length:=K_r (by rw[hol];omega)
  obtain⟨w1,s1,s2,s3⟩:=hb.drew.stC (i:=oh+i) (by rw[hsl];omega) (.int .u64 (IntKind.u64.wrap (IntKind.u32.wrap (v.getD i 0+x.getD i 0))))
  have hstep:(seg ch oh (ints .u64 (out.take i))).set (oh+i) (.int .u64 (IntKind.u64.wrap (IntKind.u32.wrap (v.getD i 0+x.getD i 0))))=seg ch oh (ints .u64 (out.take (i+1))):=by
   have h1:=K_xl (cs:=ch) (vs:=ints .u64 (out.take i)) (o:=oh) (by rw[hol];omega) (.int .u64 (IntKind.u64.wrap (IntKind.u32.wrap (v.getD i 0+x.getD i 0))))
   rw[hol]at h1
   rw[h1]
   congr 1
   rw[List.take_add_one,K_3i]
   congr 1
   have:out[i]? =some (IntKind.u64.wrap (IntKind.u32.wrap (v.getD i 0+x.getD i 0))):=by
    simp only[out,sum8,List.getElem?_map,List.getElem?_range (show i<8 by omega)];rfl
   rw[this];rfl
  rw[hstep]at s2
  obtain⟨w2,h1,h2,h3⟩:=ih (i+1) n w1 (by omega) (by omega) s2 (hbv.drew.upd s3 (fun e=>hne e.symm))
  refine⟨w2,?_,h2,s3.predrew.trans' h3 fun _ _ e=>e⟩
  show K_4u K (K_1x K n) (some ⟨gh,oh,none⟩) b w4 ⟨gv,0,none⟩ (ints .u32 x).toArray (i:Int) w=_
  unfold K_4u
  rw[hd,if_pos rfl,if_pos c0]
  simp only[J_tn,add_lit,Nat.mul_one,Nat.zero_add]
  rw[hg,J_bs]
  simp only[asI,if_true,J_bs]
  rw[if_pos c0,l0,J_bs,if_pos c0,add_lit,s1,J_bs,e1,h1]
theorem K_x1{K:Nat} (hK:18446744073709551616≤K) (rec:Option Addr→Sl→Addr→World→Option (Unit×World)) {gh oh gw:Nat} {b:Sl} {eh:TypeId} {bs H C:List Int} (hH:H.length=8) (hC:C.length=80) {ch:List Value}
  (hbl:64≤bs.length) (hlim:bs.length≤140737488355328) (hbw:∀ p,b.a=some p→p.block≠gw) (hhw:gh≠gw) (hch:oh+8≤ch.length) (hAt:(ch.drop oh).take 8=ints .u64 H)
  {w:World} {cw:List Value} (hr:RdS .u8 w b bs) (hbh:Bk eh w gh ch) (hb:Bk 174 w gw cw) (hcw:cw.length=64) (hT:Rd w ⟨3,0,none⟩ (ints .u64 C)) (hg2:gw≠3):
  ∃ w' cw',K_12 K rec (some ⟨gh,oh,none⟩) b ⟨gw,0,none⟩ w=rec (some ⟨gh,oh,none⟩) ⟨sla b.a 64 b.cap 1,b.len - 64,b.cap - 64⟩ ⟨gw,0,none⟩ w'∧
   Bk eh w' gh (seg ch oh (ints .u64 (comp32 C H bs)))∧Bk 174 w' gw cw'∧cw'.length=64∧Upd (fun k=>k=gh∨k=gw) w w':=by
 obtain⟨w1,c1,h1,b1,l1,t1,u1⟩:=K_10r K (some ⟨gh,oh,none⟩) hbl hlim hbw 16 0 K w cw rfl (by omega) hr hb hcw (by simp[words32])
 have h1:K_20 K K (some ⟨gh,oh,none⟩) b ⟨gw,0,none⟩ 0 w=_:=h1
 obtain⟨w2,c2,h2,b2,t2,u2⟩:=K_10z K (some ⟨gh,oh,none⟩) (b:=b) 48 K w1 c1 (words32 bs 16) (by rw[K_2o]) (by rw[K_2o];decide) (by omega) b1 l1 (by rw[K_2o];exact t1)
 rw[K_2o]at h2
 have h2:K_23 K K (some ⟨gh,oh,none⟩) b ⟨gw,0,none⟩ 16 w1=_:=h2
 rw[t2]at b2
 obtain⟨w3,n3,b3,u3,z3⟩:=K_g z176 176 w2
 have b3:Bk 176 w3 w2.heap.size z176.toList:=b3
 have hbh2:Bk eh w2 gh ch:=(hbh.upd u1 hhw).upd u2 hhw
 have hgv:gh≠w2.heap.size:=fun e=>by have:=hbh2.lt;omega
 have hgwv:gw≠w2.heap.size:=fun e=>by have:=b2.lt;omega
 obtain⟨w4,h4,b4,u4⟩:=K_12b K (b:=b) (w4:=⟨gw,0,none⟩) hH hgv hAt 8 0 K w3 _ rfl (by omega) (hbh2.upd0 u3) b3 rfl (by simp)
 have h4:K_1z K K (some ⟨gh,oh,none⟩) b ⟨gw,0,none⟩ ⟨w2.heap.size,0,none⟩ 0 w3=_:=h4
 have hT4:Rd w4 ⟨3,0,none⟩ (ints .u64 C):=by
  have hlt:=hT.lt (fun e=>by have:=congrArg List.length e;simp[hC]at this)
  have hlt:3<w.heap.size:=hlt
  have:=u1.size;have:=u2.size
  exact(((hT.upd u1 fun _ e=>hg2 e.symm).upd u2 fun _ e=>hg2 e.symm).upd u3 fun _=>id).upd u4 fun _ e=>(by have e:3=w2.heap.size:=e;omega)
 have b4w:Bk 174 w4 gw (ints .u32 (ext32 48 (words32 bs 16))):=(b2.upd0 u3).upd u4 hgwv
 have hvl:(H.map IntKind.u32.wrap).length=8:=by rw[List.length_map,hH]
 have lv:∀ i,i<8→ldI .u32 ⟨w2.heap.size,i,none⟩ w4.drew=some ((H.map IntKind.u32.wrap).getD i 0):=fun i hi=>b4.drew.ldI (by
  have:i<(H.map IntKind.u32.wrap).length:=by omega
  rw[ints,List.getElem?_map,J_ge this,J_gd,J_ge this];rfl)
 have h5x:=K_11c K (h0:=some ⟨gh,oh,none⟩) (b:=b) (v10:=⟨w2.heap.size,0,none⟩) (W:=ext32 48 (words32 bs 16)) (by rw[K_nr,K_2o]) hC 64 0 K w4.drew ((H.map IntKind.u32.wrap).getD 0 0) ((H.map IntKind.u32.wrap).getD 1 0) ((H.map IntKind.u32.wrap).getD 2 0) ((H.map IntKind.u32.wrap).getD 3 0) ((H.map IntKind.u32.wrap).getD 4 0) ((H.map IntKind.u32.wrap).getD 5 0) ((H.map IntKind.u32.wrap).getD 6 0) ((H.map IntKind.u32.wrap).getD 7 0) rfl (by omega) b4w.drew
  (hT4.upd (S:=none_) (Upd.refl _ _).drew fun _=>id)
 obtain⟨y,hy⟩:∃ y,rv32 C H bs=y:=⟨_,rfl⟩
 unfold rv32 at hy
 rw[hy]at h5x
 obtain⟨w5,h5,u5⟩:=h5x
 have hc:comp32 C H bs=sum8 (H.map IntKind.u32.wrap) (list8 y):=by unfold comp32 rv32;rw[hy]
 rw[hc]
 have b5v:=(b4.drew).upd0 u5
 have b5h:Bk eh w5 gh (seg ch oh (ints .u64 ((sum8 (H.map IntKind.u32.wrap) (list8 y)).take 0))):=by
  rw[List.take_zero]
  show Bk eh w5 gh (seg ch oh [])
  rw[K_tx]
  exact((((hbh2.upd0 u3).upd u4 hgv).drew).upd0 u5)
 obtain⟨w6,h6,b6,u6⟩:=K_117 K (b:=b) (w4:=⟨gw,0,none⟩) hvl (x:=list8 y) rfl hgv hch 8 0 K w5 rfl (by omega) b5h b5v
 refine⟨w6,_,?_,b6,((((b4w).drew).upd0 u5)).upd u6 (fun e=>hhw e.symm),by simp[ints,K_nr,K_2o],?_⟩
 ·have hlen:=hr.len
  have hd:decide (((b.len:Nat):Int)≥64)=true:=by simp;omega
  have k64:(0:Int)≤64∧(64:Int)≤((b.len:Nat):Int):=by omega
  unfold K_12
  rw[hd,if_pos rfl,h1,bnd_ok,h2,bnd_ok,n3,bnd_ok,h4,bnd_ok]
  simp only[add_lit,Nat.zero_mul,Nat.one_mul,Nat.add_zero,Nat.zero_add,Nat.reduceMul]
  rw[lv 0 (by decide),J_bs,lv 1 (by decide),J_bs,lv 2 (by decide),J_bs,lv 3 (by decide),J_bs,lv 4 (by decide),J_bs,lv 5 (by decide),J_bs,lv 6 (by decide),J_bs,lv 7 (by decide),J_bs]
  have h5':K_21 K K (some ⟨gh,oh,none⟩) b ⟨gw,0,none⟩ ⟨w2.heap.size,0,none⟩ ((H.map IntKind.u32.wrap).getD 0 0) ((H.map IntKind.u32.wrap).getD 1 0) ((H.map IntKind.u32.wrap).getD 2 0) ((H.map IntKind.u32.wrap).getD 3 0) ((H.map IntKind.u32.wrap).getD 4 0) ((H.map IntKind.u32.wrap).getD 5 0) ((H.map IntKind.u32.wrap).getD 6 0) ((H.map IntKind.u32.wrap).getD 7 0) 0 w4.drew=some (y,w5):=h5
  have h6':K_1x K K (some ⟨gh,oh,none⟩) b ⟨gw,0,none⟩ ⟨w2.heap.size,0,none⟩ (ints .u32 [y.1,y.2.1,y.2.2.1,y.2.2.2.1,y.2.2.2.2.1,y.2.2.2.2.2.1,y.2.2.2.2.2.2.1,y.2.2.2.2.2.2.2.1]).toArray 0 w5=some ((),w6):=h6
  rw[h5',bnd_ok,built176,J_bs,h6',bnd_ok,if_pos k64]
 ·have q1:Upd (fun k=>k=gh∨k=gw) w w2:=(u1.trans' u2 fun _ _ e=>e).mono fun _ _ e=>.inr e
  have q2:Upd (fun k=>k=gh∨k=gw) w w4:=(q1.and0 u3).trans' u4 fun k hk e=>by
   have:=u1.size;have:=u2.size;omega
  exact(q2.drew.and0 u5).trans' u6 fun _ _ e=>.inl e
theorem K_yk{cs a b:List Value}{o:Nat}(h:a.length=b.length)(hl:o+a.length≤cs.length):seg (seg cs o a) o b=seg cs o b:=by
 apply List.ext_getElem?
 intro i
 have h1:(seg cs o a).length=cs.length:=K_r hl
 rw[K_10 (cs:=seg cs o a) (by omega),K_10 (cs:=cs) (vs:=b) (by omega),K_10 hl]
 by_cases c1:i<o
 ·simp[c1]
 ·by_cases c2:i<o+b.length
  ·simp[c1,c2]
  ·simp[c1,c2,h]
theorem K_11i{cs a:List Value}{o:Nat}(hl:o+a.length≤cs.length):((seg cs o a).drop o).take a.length=a:=by
 simp only[seg,List.append_assoc]
 rw[List.drop_left' (by simp;omega),List.take_left]
theorem K_y8{K:Nat}(hK:18446744073709551616≤K){gh oh gw:Nat}{eh:TypeId}{C:List Int}(hC:C.length=80)(hhw:gh≠gw)(hg2:gw≠3)(hg3:gh≠3):
  ∀ (m n:Nat) (w:World) (b:Sl) (bs H:List Int) (ch cw:List Value),bs.length / 64=m→m<n→bs.length≤140737488355328→H.length=8→oh+8≤ch.length→(ch.drop oh).take 8=ints .u64 H→
   (∀ p,b.a=some p→bs≠[]→p.block≠gw)→((∀ p,b.a=some p→p.block≠gh)∨bs.length<128)→RdS .u8 w b bs→Bk eh w gh ch→Bk 174 w gw cw→cw.length=64→Rd w ⟨3,0,none⟩ (ints .u64 C)→
   ∃ w',K_16 K n (some ⟨gh,oh,none⟩) b ⟨gw,0,none⟩ w=some ((),w')∧Bk eh w' gh (seg ch oh (ints .u64 (comps32 C m H bs)))∧Upd (fun k=>k=gh∨k=gw) w w':=by
 intro m
 induction m with
 | zero=>
  intro n w b bs H ch cw hm hn hlim hH hch hAt hbw hbh hr hb hw hcw hT
  obtain⟨n,rfl⟩:∃ k,n=k+1:=⟨n - 1,by omega⟩
  refine⟨w,?_,?_,Upd.refl _ _⟩
  ·show K_12 K (K_16 K n) (some ⟨gh,oh,none⟩) b ⟨gw,0,none⟩ w=_
   have hd:decide (((b.len:Nat):Int)≥64)=false:=by rw[hr.len];simp;omega
   unfold K_12
   rw[hd,if_neg (by decide)]
  ·have:seg ch oh (ints .u64 (comps32 C 0 H bs))=ch:=by
    show seg ch oh (ints .u64 H)=ch
    rw[←hAt]
    apply List.ext_getElem?
    intro i
    have hl:((ch.drop oh).take 8).length=8:=by simp;omega
    rw[K_10 (by omega),hl]
    by_cases c1:i<oh
    ·simp[c1]
    ·by_cases c2:i<oh+8
     ·rw[if_neg c1,if_pos c2,List.getElem?_take,if_pos (by omega),List.getElem?_drop];congr 1;omega
     ·rw[if_neg c1,if_neg c2]
   rw[this];exact hb
 | succ m ih=>
  intro n w b bs H ch cw hm hn hlim hH hch hAt hbw hbh hr hb hw hcw hT
  obtain⟨n,rfl⟩:∃ k,n=k+1:=⟨n - 1,by omega⟩
  have h64:64≤bs.length:=by omega
  have hbs:bs≠[]:=fun e=>by rw[e]at h64;simp at h64
  replace hbw:∀ p,b.a=some p→p.block≠gw:=fun p hp=>hbw p hp hbs
  obtain⟨w1,cw1,h1,b1,bw1,l1,u1⟩:=K_x1 hK (K_16 K n) hH hC h64 hlim hbw hhw hch hAt hr hb hw hcw hT hg2
  have hcl:(ints .u64 (comp32 C H bs)).length=8:=by rw[K_3,K_fn]
  have hT1:=hT.upd u1 fun _ e=>by rcases e with e | e;exact hg3 e.symm;exact hg2 e.symm
  have hlen:=hr.len
  have hcap:=hr.cap
  by_cases hz:bs.length<128
  ·
   have hm0:m=0:=by omega
   subst hm0
   obtain⟨n,rfl⟩:∃ k,n=k+1:=⟨n - 1,by omega⟩
   refine⟨w1,?_,b1,u1⟩
   show K_12 K (K_16 K (n+1)) (some ⟨gh,oh,none⟩) b ⟨gw,0,none⟩ w=_
   rw[h1]
   show K_12 K (K_16 K n) (some ⟨gh,oh,none⟩) ⟨sla b.a 64 b.cap 1,b.len - 64,b.cap - 64⟩ ⟨gw,0,none⟩ w1=_
   have hd:decide (((b.len - 64:Nat):Int)≥64)=false:=by rw[hlen];simp;omega
   unfold K_12
   rw[hd,if_neg (by decide)]
  ·have hbg:∀ p,b.a=some p→p.block≠gh:=by
    rcases hbh with h | h
    ·exact h
    ·omega
   have hr1:=(hr.upd u1 fun p hp e=>by rcases e with e | e;exact hbg p hp e;exact hbw p hp e).sub (lo:=64) (hi:=bs.length) h64 (Nat.le_refl _)
   rw[List.take_length]at hr1
   have hblk:∀ q,sla b.a 64 b.cap 1=some q→∃ p,b.a=some p∧q.block=p.block:=by
    intro q hq
    unfold sla at hq
    split at hq
    ·exact⟨q,hq,rfl⟩
    ·cases hb':b.a with
     | none=>rw[hb']at hq;simp at hq
     | some p=>rw[hb']at hq;simp at hq;exact⟨p,rfl,by rw[←hq];unfold Addr.add;split <;> rfl⟩
   obtain⟨w2,h2,b2,u2⟩:=ih n w1 ⟨sla b.a 64 b.cap 1,bs.length - 64,b.cap - 64⟩ (bs.drop 64) (comp32 C H bs) (seg ch oh (ints .u64 (comp32 C H bs))) cw1 (by simp;omega) (by omega) (by simp;omega) (K_fn C H bs)
    (by rw[K_r (by omega)];exact hch) (by have:=K_11i (cs:=ch) (a:=ints .u64 (comp32 C H bs)) (o:=oh) (by omega);rwa [hcl]at this)
    (fun q hq _=>by obtain⟨p,hp,e⟩:=hblk q hq;rw[e];exact hbw p hp) (.inl fun q hq=>by obtain⟨p,hp,e⟩:=hblk q hq;rw[e];exact hbg p hp) hr1 b1 bw1 l1 hT1
   refine⟨w2,?_,?_,u1.trans' u2 fun _ _ e=>e⟩
   ·show K_12 K (K_16 K n) (some ⟨gh,oh,none⟩) b ⟨gw,0,none⟩ w=_
    rw[h1,hlen,h2]
   ·rw[K_yk (by rw[hcl,K_3,K_ip C m _ _ (K_fn C H bs)]) (by omega)]at b2
    exact b2
theorem K_10x{K:Nat} (hK:18446744073709551616≤K) {gh oh:Nat} {eh:TypeId} {C:List Int} (hC:C.length=80) (hg3:gh≠3) {w:World} {b:Sl} {bs H:List Int} {ch:List Value}
  (hlim:bs.length≤140737488355328) (hH:H.length=8) (hch:oh+8≤ch.length) (hAt:(ch.drop oh).take 8=ints .u64 H)
  (hbv:∀ p,b.a=some p→bs≠[]→p.block<w.heap.size) (hbh:(∀ p,b.a=some p→p.block≠gh)∨bs.length<128) (hr:RdS .u8 w b bs) (hb:Bk eh w gh ch) (hT:Rd w ⟨3,0,none⟩ (ints .u64 C)):
  ∃ w',K_3w K (some ⟨gh,oh,none⟩) b w=some ((),w')∧Bk eh w' gh (seg ch oh (ints .u64 (comps32 C (bs.length / 64) H bs)))∧Upd (· =gh) w w':=by
 obtain⟨w1,n1,b1,u1,z1⟩:=K_g z174 174 w
 have b1:Bk 174 w1 w.heap.size z174.toList:=b1
 have hlt:3<w.heap.size:=hT.lt (fun e=>by have:=congrArg List.length e;simp[hC]at this)
 obtain⟨w2,h2,b2,u2⟩:=K_y8 hK hC (gw:=w.heap.size) (fun e=>by have:=hb.lt;omega) (by omega) hg3 (bs.length / 64) K w1 b bs H ch _ rfl (by omega) hlim hH hch hAt
  (fun p hp hne e=>by have:=hbv p hp hne;omega) hbh (hr.upd0 u1) (hb.upd0 u1) b1 rfl (hT.upd u1 fun _=>id)
 refine⟨w2,?_,b2,(u1.mono fun _ _ e=>e.elim).trans' u2 fun k hk e=>by rcases e with e | e;exact e;omega⟩
 unfold K_3w
 rw[n1,bnd_ok,h2,bnd_ok]
end Go.Sh

namespace Go.Sh
open Go.Fw Go.Sha Go.RowKit Go.Proofs.Tryd
theorem K_10n:∀ n:Nat,n<64→0<n→bits .and .u64 (IntKind.u64.wrap (-(n:Int))) 63=((64 - n:Nat):Int):=by decide+kernel
theorem RL64(x:Int){n:Nat}(h0:0<n)(h1:n<64):K_5 x (-(n:Int))=some (rr64 x n,()):=by
 have e1:=K_10n n h1 h0
 have e2:IntKind.u64.wrap (64 - ((64 - n:Nat):Int))=(n:Int):=by rw[IntKind.wrap_u64];omega
 have m1:min (64 - n) IntKind.u64.bits=64 - n:=Nat.min_eq_left (by simp only[IntKind.bits];omega)
 have m2:min n IntKind.u64.bits=n:=Nat.min_eq_left (by simp only[IntKind.bits];omega)
 unfold K_5
 rw[e1,e2]
 simp only[J_tn,m1,m2,Int.natCast_nonneg,if_true,rr64]
theorem K_14p(K:Nat)(h0:Option Addr){b:Sl}{gw:Nat}:
  ∀ (d n:Nat) (w:World) (cs:List Value) (S:List Int),S.length+d=80→16≤S.length→d<n→Bk 175 w gw cs→cs.length=80→cs.take S.length=ints .u64 S→
   ∃ w' cs',K_2w K n h0 b ⟨gw,0,none⟩ ((S.length:Nat):Int) w=some ((),w')∧Bk 175 w' gw cs'∧cs'=ints .u64 (ext64 d S)∧Upd (· =gw) w w':=by
 intro d
 induction d with
 | zero=>
  intro n w cs S hi h16 hn hb hc ht
  obtain⟨n,rfl⟩:∃ m,n=m+1:=⟨n - 1,by omega⟩
  have hS:S.length=80:=by omega
  refine⟨w,cs,?_,hb,?_,Upd.refl _ _⟩
  ·show K_6d K (K_2w K n) h0 b ⟨gw,0,none⟩ ((S.length:Nat):Int) w=_
   rw[hS]
   simp[K_6d]
  ·rw[hS,List.take_of_length_le (by omega)]at ht;exact ht
 | succ d ih=>
  intro n w cs S hi h16 hn hb hc ht
  obtain⟨n,rfl⟩:∃ m,n=m+1:=⟨n - 1,by omega⟩
  have hd:decide (((S.length:Nat):Int)<80)=true:=by simp;omega
  have e15:IntKind.i64.wrap (((S.length:Nat):Int) - 15)=((S.length - 15:Nat):Int):=by rw[w64 (by omega) (by omega)];omega
  have e2:IntKind.i64.wrap (((S.length:Nat):Int) - 2)=((S.length - 2:Nat):Int):=by rw[w64 (by omega) (by omega)];omega
  have e16:IntKind.i64.wrap (((S.length:Nat):Int) - 16)=((S.length - 16:Nat):Int):=by rw[w64 (by omega) (by omega)];omega
  have e7:IntKind.i64.wrap (((S.length:Nat):Int) - 7)=((S.length - 7:Nat):Int):=by rw[w64 (by omega) (by omega)];omega
  have e1:IntKind.i64.wrap (((S.length:Nat):Int)+1)=((S.length+1:Nat):Int):=by rw[w64 (by omega) (by omega)];rfl
  have c15:(0:Int)≤((S.length - 15:Nat):Int)∧((S.length - 15:Nat):Int)<((80:Nat):Int):=by omega
  have c2:(0:Int)≤((S.length - 2:Nat):Int)∧((S.length - 2:Nat):Int)<((80:Nat):Int):=by omega
  have c16:(0:Int)≤((S.length - 16:Nat):Int)∧((S.length - 16:Nat):Int)<((80:Nat):Int):=by omega
  have c7:(0:Int)≤((S.length - 7:Nat):Int)∧((S.length - 7:Nat):Int)<((80:Nat):Int):=by omega
  have c0:(0:Int)≤((S.length:Nat):Int)∧((S.length:Nat):Int)<((80:Nat):Int):=by omega
  have l15:=hb.drew.ldI (K_6x ht (i:=S.length - 15) (by omega))
  have l2:=hb.drew.ldI (K_6x ht (i:=S.length - 2) (by omega))
  have l16:=hb.drew.drew.ldI (K_6x ht (i:=S.length - 16) (by omega))
  have l7:=hb.drew.drew.ldI (K_6x ht (i:=S.length - 7) (by omega))
  have r7:=RL64 (S.getD (S.length - 15) 0) (n:=1) (by decide) (by decide)
  have r18:=RL64 (S.getD (S.length - 15) 0) (n:=8) (by decide) (by decide)
  have r17:=RL64 (S.getD (S.length - 2) 0) (n:=19) (by decide) (by decide)
  have r19:=RL64 (S.getD (S.length - 2) 0) (n:=61) (by decide) (by decide)
  have r7:K_5 (S.getD (S.length - 15) 0) (-1)=some (rr64 (S.getD (S.length - 15) 0) 1,()):=r7
  have r18:K_5 (S.getD (S.length - 15) 0) (-8)=some (rr64 (S.getD (S.length - 15) 0) 8,()):=r18
  have r17:K_5 (S.getD (S.length - 2) 0) (-19)=some (rr64 (S.getD (S.length - 2) 0) 19,()):=r17
  have r19:K_5 (S.getD (S.length - 2) 0) (-61)=some (rr64 (S.getD (S.length - 2) 0) 61,()):=r19
  let x:=sch64 (S.getD (S.length - 15) 0) (S.getD (S.length - 2) 0) (S.getD (S.length - 16) 0) (S.getD (S.length - 7) 0)
  obtain⟨w1,s1,s2,s3⟩:=hb.drew.drew.stC (i:=S.length) (by omega) (.int .u64 x)
  have s1':stC ((⟨gw,0,none⟩:Addr).add (S.length*1)) (.int .u64 x) w.drew.drew=some w1:=by rw[add_lit,Nat.mul_one,Nat.zero_add];exact s1
  have hfs:=K_ei ht (by omega) x
  have hSl:(S ++ [x]).length=S.length+1:=by simp
  obtain⟨w2,cs2,h1,h2,h3,h5⟩:=ih n w1 _ (S ++ [x]) (by rw[hSl];omega) (by rw[hSl];omega) (by omega) s2 (by simpa using hc) hfs
  rw[hSl]at h1
  refine⟨w2,cs2,?_,h2,by rw[h3];rfl,(s3.predrew.predrew).trans' h5 fun _ _ e=>e⟩
  show K_6d K (K_2w K n) h0 b ⟨gw,0,none⟩ ((S.length:Nat):Int) w=_
  unfold K_6d
  rw[hd,if_pos rfl,e15,e2,e16,e7]
  simp only[J_tn]
  rw[if_pos c15,if_pos c2]
  simp only[add_lit,Nat.mul_one,Nat.zero_add]
  rw[l15,J_bs,l2,J_bs,if_pos c16,if_pos c7,l16,J_bs,l7,J_bs,r7,J_bs,r18,J_bs,r17,J_bs,r19,J_bs,if_pos c0]
  show (stC ⟨gw,S.length,none⟩ (.int .u64 x) w.drew.drew).bind _=_
  rw[s1,J_bs,e1,h1]
theorem K_15m(K:Nat){h0:Option Addr}{b:Sl}{gw:Nat}{W C:List Int}(hW:W.length=80)(hC:C.length=80):
  ∀ (m i n:Nat) (w:World) (a b1 c d e f g k:Int),i+m=80→m<n→Bk 175 w gw (ints .u64 W)→
   ∃ w',K_32 K n h0 b ⟨gw,0,none⟩ a b1 c d e f g k (ints .u64 C).toArray (i:Int) w=some (rounds64 W C m i a b1 c d e f g k,w')∧Upd none_ w w':=by
 intro m
 induction m with
 | zero=>
  intro i n w a b1 c d e f g k hi hn hb
  obtain⟨n,rfl⟩:∃ m,n=m+1:=⟨n - 1,by omega⟩
  have:i=80:=by omega
  subst this
  refine⟨w,?_,Upd.refl _ _⟩
  show K_64 K (K_32 K n) h0 b ⟨gw,0,none⟩ a b1 c d e f g k (ints .u64 C).toArray ((80:Nat):Int) w=_
  simp[K_64,rounds64]
 | succ m ih=>
  intro i n w a b1 c d e f g k hi hn hb
  obtain⟨n,rfl⟩:∃ m,n=m+1:=⟨n - 1,by omega⟩
  have hd:decide ((i:Int)<80)=true:=by simp;omega
  have e1:IntKind.i64.wrap ((i:Int)+1)=((i+1:Nat):Int):=by rw[w64 (by omega) (by omega)];rfl
  have c80:(0:Int)≤(i:Int)∧(i:Int)<((80:Nat):Int):=by omega
  have hg:(ints .u64 C).toArray[i]? =some (.int .u64 (C.getD i 0)):=by
   rw[List.getElem?_toArray];simp[ints,J_gd,show i<C.length by omega]
  have l1:ldI .u64 ⟨gw,i,none⟩ w.drew=some (W.getD i 0):=hb.drew.ldI (by simp[ints,J_gd,show i<W.length by omega])
  have q14:K_5 e (-14)=some (rr64 e 14,()):=RL64 e (n:=14) (by decide) (by decide)
  have q18:K_5 e (-18)=some (rr64 e 18,()):=RL64 e (n:=18) (by decide) (by decide)
  have q41:K_5 e (-41)=some (rr64 e 41,()):=RL64 e (n:=41) (by decide) (by decide)
  have q28:K_5 a (-28)=some (rr64 a 28,()):=RL64 a (n:=28) (by decide) (by decide)
  have q34:K_5 a (-34)=some (rr64 a 34,()):=RL64 a (n:=34) (by decide) (by decide)
  have q39:K_5 a (-39)=some (rr64 a 39,()):=RL64 a (n:=39) (by decide) (by decide)
  obtain⟨w1,h1,h2⟩:=ih (i+1) n w.drew (IntKind.u64.wrap (t1_64 e f g k (C.getD i 0) (W.getD i 0)+t2_64 a b1 c)) a b1 c
   (IntKind.u64.wrap (d+t1_64 e f g k (C.getD i 0) (W.getD i 0))) e f g (by omega) (by omega) hb.drew
  refine⟨w1,?_,h2.predrew⟩
  show K_64 K (K_32 K n) h0 b ⟨gw,0,none⟩ a b1 c d e f g k (ints .u64 C).toArray (i:Int) w=_
  unfold K_64
  rw[hd,if_pos rfl,if_pos c80]
  simp only[J_tn,add_lit,Nat.mul_one,Nat.zero_add]
  rw[hg,J_bs]
  simp only[asI,if_true,J_bs]
  rw[if_pos c80,q14,J_bs,q18,J_bs,q41,J_bs,l1,J_bs,q28,J_bs,q34,J_bs,q39,J_bs,e1]
  exact h1
theorem K_wz{κ:IntKind}(xs:List Int)(i:Nat)(x:Int):(ints κ xs).set i (.int κ x)=ints κ (xs.set i x):=by
 simp only[ints,List.map_set]
theorem K_150(K:Nat)(h0:Option Addr){b s:Sl}{bs xs:List Int}{o:Nat}(hx8:xs.length=8)(hxs:∀ j,j<8→xs.getD j 0=bs.getD (o+j) 0){gw i:Nat}{a30:Int}(hi80:i<80)(hne:∀ p,s.a=some p→p.block≠gw){v:Int}{ws:List Int}(hws:ws.length=80):
  ∀ (d j n:Nat) (w:World),j+d=8→d<n→RdS .u8 w s xs→Bk 175 w gw (ints .u64 (ws.set i (word64 v bs o j)))→(∀ j,j<8→InK .u8 (bs.getD (o+j) 0))→
   ∃ w',K_3c K n h0 b ⟨gw,0,none⟩ (i:Int) a30 s 8 (j:Int) w=some ((),w')∧Bk 175 w' gw (ints .u64 (ws.set i (word64 v bs o 8)))∧Upd (· =gw) w w':=by
 intro d
 induction d with
 | zero=>
  intro j n w hj hn hr hb hin
  obtain⟨n,rfl⟩:∃ m,n=m+1:=⟨n - 1,by omega⟩
  have:j=8:=by omega
  subst this
  refine⟨w,?_,hb,Upd.refl _ _⟩
  show K_6g K (K_3c K n) h0 b ⟨gw,0,none⟩ (i:Int) a30 s 8 ((8:Nat):Int) w=_
  simp[K_6g]
 | succ d ih=>
  intro j n w hj hn hr hb hin
  obtain⟨n,rfl⟩:∃ m,n=m+1:=⟨n - 1,by omega⟩
  obtain⟨p,hp,hl⟩:=rdD hr
  have hxn:xs≠[]:=fun e=>by rw[e]at hx8;cases hx8
  have hlen:=hr.len
  have hd:decide ((j:Int)<8)=true:=by simp;omega
  have e1:IntKind.i64.wrap ((j:Int)+1)=((j+1:Nat):Int):=by rw[w64 (by omega) (by omega)];rfl
  have c1:(0:Int)≤(j:Int)∧(j:Int)<((s.len:Nat):Int):=by omega
  have c2:(0:Int)≤(i:Int)∧(i:Int)<((80:Nat):Int):=by omega
  have lx:=hl j (by omega)
  rw[hxs j (by omega)]at lx
  have lw:ldI .u64 ⟨gw,i,none⟩ w=some (word64 v bs o j):=hb.ldI (by simp[ints,hws,hi80])
  obtain⟨w1,s1,s2,s3⟩:=hb.stC (i:=i) (by rw[K_3,List.length_set,hws];exact hi80) (.int .u64 (word64 v bs o (j+1)))
  rw[K_wz,List.set_set]at s2
  obtain⟨w2,h1,h2,h3⟩:=ih (j+1) n w1 (by omega) (by omega) (hr.upd s3 fun q hq e=>hne q hq e) s2 hin
  refine⟨w2,?_,h2,s3.trans' h3 fun _ _ e=>e⟩
  show K_6g K (K_3c K n) h0 b ⟨gw,0,none⟩ (i:Int) a30 s 8 (j:Int) w=_
  unfold K_6g
  rw[hd,if_pos rfl,hp hxn,J_bs,if_pos c1]
  simp only[J_tn,add_lit,Nat.mul_one,Nat.zero_add]
  rw[lx,J_bs,if_pos c2,lw,J_bs,if_pos c2]
  show (stC ⟨gw,i,none⟩ (.int .u64 (word64 v bs o (j+1))) w).bind _=_
  rw[s1,J_bs,e1,h1]
theorem K_15w{K:Nat}(hK:18446744073709551616≤K)(h0:Option Addr){b:Sl}{bs:List Int}(hin:∀ i,InK .u8 (bs.getD i 0))(hbl:128≤bs.length)(hlim:bs.length≤140737488355328){gw:Nat}(hne:∀ p,b.a=some p→p.block≠gw):
  ∀ (d i n:Nat) (w:World) (ws:List Int),i+d=16→d<n→RdS .u8 w b bs→Bk 175 w gw (ints .u64 ws)→ws.length=80→ws.take i=words64 bs i→
   ∃ w' ws',K_3d K n h0 b ⟨gw,0,none⟩ (i:Int) w=some ((),w')∧Bk 175 w' gw (ints .u64 ws')∧ws'.length=80∧ws'.take 16=words64 bs 16∧Upd (· =gw) w w':=by
 intro d
 induction d with
 | zero=>
  intro i n w ws hi hn hr hb hc ht
  obtain⟨n,rfl⟩:∃ m,n=m+1:=⟨n - 1,by omega⟩
  have:i=16:=by omega
  subst this
  refine⟨w,ws,?_,hb,hc,ht,Upd.refl _ _⟩
  show K_69 K (K_3d K n) h0 b ⟨gw,0,none⟩ ((16:Nat):Int) w=_
  simp[K_69]
 | succ d ih=>
  intro i n w ws hi hn hr hb hc ht
  obtain⟨n,rfl⟩:∃ m,n=m+1:=⟨n - 1,by omega⟩
  have hcap:=hr.cap
  have hlen:=hr.len
  have hd:decide ((i:Int)<16)=true:=by simp;omega
  have e8:IntKind.i64.wrap (8*(i:Int))=((8*i:Nat):Int):=by rw[w64 (by omega) (by omega)];omega
  have e88:IntKind.i64.wrap (((8*i:Nat):Int)+8)=((8*i+8:Nat):Int):=by rw[w64 (by omega) (by omega)];omega
  have e1:IntKind.i64.wrap ((i:Int)+1)=((i+1:Nat):Int):=by rw[w64 (by omega) (by omega)];rfl
  have c1:(0:Int)≤((8*i+8:Nat):Int)∧((8*i+8:Nat):Int)≤((b.cap:Nat):Int):=by omega
  have c2:(0:Int)≤((8*i:Nat):Int)∧((8*i:Nat):Int)≤((8*i+8:Nat):Int):=by omega
  have hs:=hr.sub (lo:=8*i) (hi:=8*i+8) (by omega) (by omega)
  have hx8:((bs.take (8*i+8)).drop (8*i)).length=8:=by simp;omega
  have hblk:∀ q,sla b.a (8*i) b.cap 1=some q→q.block≠gw:=by
   intro q hq
   unfold sla at hq
   split at hq
   ·exact hne q hq
   ·cases hb':b.a with
    | none=>rw[hb']at hq;simp at hq
    | some p=>
     rw[hb']at hq;simp at hq
     have:q.block=p.block:=by rw[←hq];unfold Addr.add;split <;> rfl
     rw[this];exact hne p hb'
  have hb0:Bk 175 w gw (ints .u64 (ws.set i (word64 (ws.getD i 0) bs (8*i) 0))):=by
   have:ws.set i (word64 (ws.getD i 0) bs (8*i) 0)=ws:=by
    show ws.set i (ws.getD i 0)=ws
    rw[J_gd,J_ge (show i<ws.length by omega)]
    exact List.set_getElem_self _
   rw[this];exact hb
  obtain⟨w1,h1,b1,u1⟩:=K_150 K h0 (b:=b) (s:=⟨sla b.a (8*i) b.cap 1,8*i+8 - 8*i,b.cap - 8*i⟩) (bs:=bs) (o:=8*i) hx8
   (fun j hj=>by simp[J_gd,List.getElem?_drop,List.getElem?_take,show 8*i+j<8*i+8 by omega]) (i:=i) (a30:=(i:Int)) (by omega) hblk (v:=ws.getD i 0) hc 8 0 K w rfl (by omega) hs hb0 (fun j _=>hin _)
  have h1:K_3c K K h0 b ⟨gw,0,none⟩ (i:Int) (i:Int) ⟨sla b.a (8*i) b.cap 1,8*i+8 - 8*i,b.cap - 8*i⟩ 8 0 w=_:=h1
  rw[K_10e hin]at b1
  have ht1:(ws.set i (word64 0 bs (8*i) 8)).take (i+1)=words64 bs (i+1):=by
   rw[List.take_add_one,List.take_set_of_le (Nat.le_refl _),ht]
   simp[words64,show i<ws.length by omega]
  obtain⟨w2,ws2,h2,b2,l2,t2,u2⟩:=ih (i+1) n w1 _ (by omega) (by omega) (hr.upd u1 fun q hq e=>hne q hq e) b1 (by simpa using hc) ht1
  refine⟨w2,ws2,?_,b2,l2,t2,u1.trans' u2 fun _ _ e=>e⟩
  have e8s:8*i+8 - 8*i=8:=by omega
  show K_69 K (K_3d K n) h0 b ⟨gw,0,none⟩ (i:Int) w=_
  unfold K_69
  rw[hd,if_pos rfl,e8,e88]
  simp only[J_tn]
  rw[if_pos c1,if_pos c2]
  have c8:(((8*i+8 - 8*i:Nat)):Int)=8:=by omega
  rw[c8,h1,bnd_ok,e1,h2]
theorem built150(x0 x1 x2 x3 x4 x5 x6 x7:Int):prog.built 150 [(0,(.int .u64 x0)),(1,(.int .u64 x1)),(2,(.int .u64 x2)),(3,(.int .u64 x3)),(4,(.int .u64 x4)),(5,(.int .u64 x5)),(6,(.int .u64 x6)),(7,(.int .u64 x7))] =
  some (ints .u64 [x0,x1,x2,x3,x4,x5,x6,x7]).toArray:=by kernel_rfl
theorem K_15d(K:Nat){gh oh:Nat}{b:Sl}{w4:Addr}{eh:TypeId}{H x:List Int}(hH:H.length=8)(hx:x.length=8){ch:List Value}(hch:oh+8≤ch.length)(hAt:(ch.drop oh).take 8=ints .u64 H):
  ∀ (d i n:Nat) (w:World),i+d=8→d<n→Bk eh w gh (seg ch oh (ints .u64 ((sum8w H x).take i)))→
   ∃ w',K_30 K n (some ⟨gh,oh,none⟩) b w4 (ints .u64 x).toArray (i:Int) w=some ((),w')∧Bk eh w' gh (seg ch oh (ints .u64 (sum8w H x)))∧Upd (· =gh) w w':=by
 intro d
 induction d with
 | zero=>
  intro i n w hi hn hb
  obtain⟨n,rfl⟩:∃ m,n=m+1:=⟨n - 1,by omega⟩
  have:i=8:=by omega
  subst this
  rw[List.take_of_length_le (by simp[sum8w])]at hb
  refine⟨w,?_,hb,Upd.refl _ _⟩
  show K_61 K (K_30 K n) (some ⟨gh,oh,none⟩) b w4 (ints .u64 x).toArray ((8:Nat):Int) w=_
  simp[K_61]
 | succ d ih=>
  intro i n w hi hn hb
  obtain⟨n,rfl⟩:∃ m,n=m+1:=⟨n - 1,by omega⟩
  have hd:decide ((i:Int)<8)=true:=by simp;omega
  have e1:IntKind.i64.wrap ((i:Int)+1)=((i+1:Nat):Int):=by rw[w64 (by omega) (by omega)];rfl
  have c0:(0:Int)≤(i:Int)∧(i:Int)<((8:Nat):Int):=by omega
  have hxi:i<x.length:=by omega
  have hg:(ints .u64 x).toArray[i]? =some (.int .u64 (x.getD i 0)):=by
   rw[List.getElem?_toArray];simp[ints,J_gd,hxi]
  have hol:(ints .u64 ((sum8w H x).take i)).length=i:=by simp[ints,sum8w];omega
  have hsl:(seg ch oh (ints .u64 ((sum8w H x).take i))).length=ch.length:=K_r (by rw[hol];omega)
  have hAt':(ch.drop oh).take H.length=ints .u64 H:=by rw[hH];exact hAt
  have l0:ldI .u64 ⟨gh,oh+i,none⟩ w.drew=some (H.getD i 0):=hb.drew.ldI (by
   rw[K_10 (by rw[hol];omega),hol,if_neg (by omega),if_neg (by omega)]
   exact K_wt hAt' (by omega))
  obtain⟨w1,s1,s2,s3⟩:=hb.drew.stC (i:=oh+i) (by rw[hsl];omega) (.int .u64 (IntKind.u64.wrap (H.getD i 0+x.getD i 0)))
  have hstep:(seg ch oh (ints .u64 ((sum8w H x).take i))).set (oh+i) (.int .u64 (IntKind.u64.wrap (H.getD i 0+x.getD i 0)))=seg ch oh (ints .u64 ((sum8w H x).take (i+1))):=by
   have h1:=K_xl (cs:=ch) (vs:=ints .u64 ((sum8w H x).take i)) (o:=oh) (by rw[hol];omega) (.int .u64 (IntKind.u64.wrap (H.getD i 0+x.getD i 0)))
   rw[hol]at h1
   rw[h1]
   congr 1
   rw[List.take_add_one,K_3i]
   congr 1
   have:(sum8w H x)[i]? =some (IntKind.u64.wrap (H.getD i 0+x.getD i 0)):=by
    simp only[sum8w,List.getElem?_map,List.getElem?_range (show i<8 by omega)];rfl
   rw[this];rfl
  rw[hstep]at s2
  obtain⟨w2,h1,h2,h3⟩:=ih (i+1) n w1 (by omega) (by omega) s2
  refine⟨w2,?_,h2,s3.predrew.trans' h3 fun _ _ e=>e⟩
  show K_61 K (K_30 K n) (some ⟨gh,oh,none⟩) b w4 (ints .u64 x).toArray (i:Int) w=_
  unfold K_61
  rw[hd,if_pos rfl,if_pos c0]
  simp only[J_tn,Nat.mul_one]
  rw[hg,J_bs]
  simp only[asI,if_true,J_bs]
  rw[if_pos c0,add_lit,l0,J_bs,if_pos c0,s1,J_bs,e1,h1]
theorem K_10y{w:World}{g:Nat}{vs:List Value}(h:Rd w ⟨g,0,none⟩ vs)(hne:vs≠[]):ldA vs.length ⟨g,0,none⟩ w=some vs.toArray:=by
 obtain⟨m,hm⟩:∃ m,vs.length=m+1:=⟨vs.length - 1,by have:=List.length_pos_iff.2 hne;omega⟩
 have hlast:=h m (vs[m]'(by omega)) (J_ge (by omega))
 rw[add_lit,Nat.zero_add]at hlast
 unfold World.cell? at hlast
 unfold ldA
 split at hlast
 ·rename_i c e fz hb
  simp only[Option.isSome_none,Bool.false_eq_true,if_false]at hlast
  have hsz:m<c.size:=(Array.getElem?_eq_some_iff.1 hlast).1
  simp only[hb]
  rw[if_pos ⟨trivial,by omega⟩]
  congr 1
  apply Array.ext (by simp;omega)
  intro i h1 h2
  have h2':i<vs.length:=by simpa using h2
  have hi:=h i vs[i] (J_ge h2')
  rw[add_lit,Nat.zero_add]at hi
  simp only[World.cell?,hb,Option.isSome_none,Bool.false_eq_true,if_false]at hi
  have:=(Array.getElem?_eq_some_iff.1 hi).2
  simp[this]
 ·cases hlast
theorem K_zp{K:Nat} (hK:18446744073709551616≤K) (rec:Option Addr→Sl→Addr→World→Option (Unit×World)) {gh oh gw:Nat} {b:Sl} {eh:TypeId} {bs H C:List Int} (hin:∀ i,InK .u8 (bs.getD i 0)) (hH:H.length=8) (hC:C.length=80) {ch:List Value}
  (hbl:128≤bs.length) (hlim:bs.length≤140737488355328) (hbw:∀ p,b.a=some p→p.block≠gw) (hhw:gh≠gw) (hch:oh+8≤ch.length) (hAt:(ch.drop oh).take 8=ints .u64 H)
  {w:World} {ws:List Int} (hr:RdS .u8 w b bs) (hbh:Bk eh w gh ch) (hb:Bk 175 w gw (ints .u64 ws)) (hcw:ws.length=80) (hT:Rd w ⟨3,0,none⟩ (ints .u64 C)) (hg2:gw≠3):
  ∃ w' ws',K_1j K rec (some ⟨gh,oh,none⟩) b ⟨gw,0,none⟩ w=rec (some ⟨gh,oh,none⟩) ⟨sla b.a 128 b.cap 1,b.len - 128,b.cap - 128⟩ ⟨gw,0,none⟩ w'∧
   Bk eh w' gh (seg ch oh (ints .u64 (comp64 C H bs)))∧Bk 175 w' gw (ints .u64 ws')∧ws'.length=80∧Upd (fun k=>k=gh∨k=gw) w w':=by
 obtain⟨w1,c1,h1,b1,l1,t1,u1⟩:=K_15w hK (some ⟨gh,oh,none⟩) hin hbl hlim hbw 16 0 K w ws rfl (by omega) hr hb hcw (by simp[words64])
 have h1:K_3d K K (some ⟨gh,oh,none⟩) b ⟨gw,0,none⟩ 0 w=_:=h1
 obtain⟨w2,c2,h2,b2,t2,u2⟩:=K_14p K (some ⟨gh,oh,none⟩) (b:=b) 64 K w1 (ints .u64 c1) (words64 bs 16) (by rw[K_73]) (by rw[K_73];decide) (by omega) b1 (by rw[K_3];exact l1) (by rw[K_73,K_9f,t1])
 rw[K_73]at h2
 have h2:K_2w K K (some ⟨gh,oh,none⟩) b ⟨gw,0,none⟩ 16 w1=_:=h2
 rw[t2]at b2
 have hbh2:Bk eh w2 gh ch:=(hbh.upd u1 hhw).upd u2 hhw
 have hT2:Rd w2 ⟨3,0,none⟩ (ints .u64 C):=(hT.upd u1 fun _ e=>hg2 e.symm).upd u2 fun _ e=>hg2 e.symm
 have hT2d:Rd w2.drew ⟨3,0,none⟩ (ints .u64 C):=hT2.upd (S:=none_) (Upd.refl _ _).drew fun _=>id
 have hCne:ints .u64 C≠[]:=fun e=>by have:=congrArg List.length e;simp[hC]at this
 have hld:=K_10y hT2d hCne
 rw[K_3,hC]at hld
 have hAt':(ch.drop oh).take H.length=ints .u64 H:=by rw[hH];exact hAt
 have lv:∀ i,i<8→ldI .u64 ⟨gh,oh+i,none⟩ w2.drew=some (H.getD i 0):=fun i hi=>hbh2.drew.ldI (K_wt hAt' (by omega))
 have h5x:=K_15m K (h0:=some ⟨gh,oh,none⟩) (b:=b) (W:=ext64 64 (words64 bs 16)) (C:=C) (by rw[K_no,K_73]) hC 80 0 K w2.drew (H.getD 0 0) (H.getD 1 0) (H.getD 2 0) (H.getD 3 0) (H.getD 4 0) (H.getD 5 0) (H.getD 6 0) (H.getD 7 0) rfl (by omega) b2.drew
 obtain⟨y,hy⟩:∃ y,rv64 C H bs=y:=⟨_,rfl⟩
 unfold rv64 at hy
 rw[hy]at h5x
 obtain⟨w5,h5,u5⟩:=h5x
 have hc:comp64 C H bs=sum8w H (list8 y):=by unfold comp64 rv64;rw[hy]
 rw[hc]
 have b5h:Bk eh w5 gh (seg ch oh (ints .u64 ((sum8w H (list8 y)).take 0))):=by
  rw[List.take_zero]
  show Bk eh w5 gh (seg ch oh [])
  rw[K_tx]
  exact hbh2.drew.upd0 u5
 obtain⟨w6,h6,b6,u6⟩:=K_15d K (b:=b) (w4:=⟨gw,0,none⟩) hH (x:=list8 y) rfl hch hAt 8 0 K w5 rfl (by omega) b5h
 refine⟨w6,ext64 64 (words64 bs 16),?_,b6,(b2.drew.upd0 u5).upd u6 (fun e=>hhw e.symm),by rw[K_no,K_73],?_⟩
 ·have hlen:=hr.len
  have hd:decide (((b.len:Nat):Int)≥128)=true:=by simp;omega
  have k64:(0:Int)≤128∧(128:Int)≤((b.len:Nat):Int):=by omega
  have h5':K_32 K K (some ⟨gh,oh,none⟩) b ⟨gw,0,none⟩ (H.getD 0 0) (H.getD 1 0) (H.getD 2 0) (H.getD 3 0) (H.getD 4 0) (H.getD 5 0) (H.getD 6 0) (H.getD 7 0) (ints .u64 C).toArray 0 w2.drew=some (y,w5):=h5
  have h6':K_30 K K (some ⟨gh,oh,none⟩) b ⟨gw,0,none⟩ (ints .u64 [y.1,y.2.1,y.2.2.1,y.2.2.2.1,y.2.2.2.2.1,y.2.2.2.2.2.1,y.2.2.2.2.2.2.1,y.2.2.2.2.2.2.2.1]).toArray 0 w5=some ((),w6):=h6
  unfold K_1j
  rw[hd,if_pos rfl,h1,bnd_ok,h2,bnd_ok]
  simp only[J_bs,add_lit,Nat.zero_mul,Nat.one_mul,Nat.reduceMul]
  rw[lv 0 (by decide),J_bs,lv 1 (by decide),J_bs,lv 2 (by decide),J_bs,lv 3 (by decide),J_bs,lv 4 (by decide),J_bs,lv 5 (by decide),J_bs,lv 6 (by decide),J_bs,lv 7 (by decide),J_bs]
  rw[hld,J_bs,h5',bnd_ok,built150,J_bs,h6',bnd_ok,if_pos k64]
 ·have q1:Upd (fun k=>k=gh∨k=gw) w w2:=(u1.trans' u2 fun _ _ e=>e).mono fun _ _ e=>.inr e
  exact(q1.drew.and0 u5).trans' u6 fun _ _ e=>.inl e
theorem K_11g{K:Nat}(hK:18446744073709551616≤K){gh oh gw:Nat}{eh:TypeId}{C:List Int}(hC:C.length=80)(hhw:gh≠gw)(hg2:gw≠3)(hg3:gh≠3):
  ∀ (m n:Nat) (w:World) (b:Sl) (bs H:List Int) (ch:List Value) (ws:List Int),(∀ i,InK .u8 (bs.getD i 0))→bs.length / 128=m→m<n→bs.length≤140737488355328→H.length=8→oh+8≤ch.length→(ch.drop oh).take 8=ints .u64 H→
   (∀ p,b.a=some p→bs≠[]→p.block≠gw)→((∀ p,b.a=some p→p.block≠gh)∨bs.length<256)→RdS .u8 w b bs→Bk eh w gh ch→Bk 175 w gw (ints .u64 ws)→ws.length=80→Rd w ⟨3,0,none⟩ (ints .u64 C)→
   ∃ w',K_1g K n (some ⟨gh,oh,none⟩) b ⟨gw,0,none⟩ w=some ((),w')∧Bk eh w' gh (seg ch oh (ints .u64 (comps64 C m H bs)))∧Upd (fun k=>k=gh∨k=gw) w w':=by
 intro m
 induction m with
 | zero=>
  intro n w b bs H ch cw hin hm hn hlim hH hch hAt hbw hbh hr hb hw hcw hT
  obtain⟨n,rfl⟩:∃ k,n=k+1:=⟨n - 1,by omega⟩
  refine⟨w,?_,?_,Upd.refl _ _⟩
  ·show K_1j K (K_1g K n) (some ⟨gh,oh,none⟩) b ⟨gw,0,none⟩ w=_
   have hd:decide (((b.len:Nat):Int)≥128)=false:=by rw[hr.len];simp;omega
   unfold K_1j
   rw[hd,if_neg (by decide)]
  ·have:seg ch oh (ints .u64 (comps64 C 0 H bs))=ch:=by
    show seg ch oh (ints .u64 H)=ch
    rw[←hAt]
    apply List.ext_getElem?
    intro i
    have hl:((ch.drop oh).take 8).length=8:=by simp;omega
    rw[K_10 (by omega),hl]
    by_cases c1:i<oh
    ·simp[c1]
    ·by_cases c2:i<oh+8
     ·rw[if_neg c1,if_pos c2,List.getElem?_take,if_pos (by omega),List.getElem?_drop];congr 1;omega
     ·rw[if_neg c1,if_neg c2]
   rw[this];exact hb
 | succ m ih=>
  intro n w b bs H ch cw hin hm hn hlim hH hch hAt hbw hbh hr hb hw hcw hT
  obtain⟨n,rfl⟩:∃ k,n=k+1:=⟨n - 1,by omega⟩
  have h64:128≤bs.length:=by omega
  have hbs:bs≠[]:=fun e=>by rw[e]at h64;simp at h64
  replace hbw:∀ p,b.a=some p→p.block≠gw:=fun p hp=>hbw p hp hbs
  obtain⟨w1,cw1,h1,b1,bw1,l1,u1⟩:=K_zp hK (K_1g K n) hin hH hC h64 hlim hbw hhw hch hAt hr hb hw hcw hT hg2
  have hcl:(ints .u64 (comp64 C H bs)).length=8:=by rw[K_3,K_fg]
  have hT1:=hT.upd u1 fun _ e=>by rcases e with e | e;exact hg3 e.symm;exact hg2 e.symm
  have hlen:=hr.len
  have hcap:=hr.cap
  by_cases hz:bs.length<256
  ·
   have hm0:m=0:=by omega
   subst hm0
   obtain⟨n,rfl⟩:∃ k,n=k+1:=⟨n - 1,by omega⟩
   refine⟨w1,?_,b1,u1⟩
   show K_1j K (K_1g K (n+1)) (some ⟨gh,oh,none⟩) b ⟨gw,0,none⟩ w=_
   refine h1.trans ?_
   have e:K_1g K (n+1)=K_1j K (K_1g K n):=rfl
   rw[e]
   have hd:decide (((b.len - 128:Nat):Int)≥128)=false:=by rw[hlen];simp;omega
   unfold K_1j
   rw[hd,if_neg (by decide)]
  ·have hbg:∀ p,b.a=some p→p.block≠gh:=by
    rcases hbh with h | h
    ·exact h
    ·omega
   have hr1:=(hr.upd u1 fun p hp e=>by rcases e with e | e;exact hbg p hp e;exact hbw p hp e).sub (lo:=128) (hi:=bs.length) h64 (Nat.le_refl _)
   rw[List.take_length]at hr1
   have hblk:∀ q,sla b.a 128 b.cap 1=some q→∃ p,b.a=some p∧q.block=p.block:=by
    intro q hq
    unfold sla at hq
    split at hq
    ·exact⟨q,hq,rfl⟩
    ·cases hb':b.a with
     | none=>rw[hb']at hq;simp at hq
     | some p=>rw[hb']at hq;simp at hq;exact⟨p,rfl,by rw[←hq];unfold Addr.add;split <;> rfl⟩
   obtain⟨w2,h2,b2,u2⟩:=ih n w1 ⟨sla b.a 128 b.cap 1,bs.length - 128,b.cap - 128⟩ (bs.drop 128) (comp64 C H bs) (seg ch oh (ints .u64 (comp64 C H bs))) cw1 (fun i=>by have:=hin (128+i);simpa[J_gd,List.getElem?_drop] using this) (by simp;omega) (by omega) (by simp;omega) (K_fg C H bs)
    (by rw[K_r (by omega)];exact hch) (by have:=K_11i (cs:=ch) (a:=ints .u64 (comp64 C H bs)) (o:=oh) (by omega);rwa [hcl]at this)
    (fun q hq _=>by obtain⟨p,hp,e⟩:=hblk q hq;rw[e];exact hbw p hp) (.inl fun q hq=>by obtain⟨p,hp,e⟩:=hblk q hq;rw[e];exact hbg p hp) hr1 b1 bw1 l1 hT1
   refine⟨w2,?_,?_,u1.trans' u2 fun _ _ e=>e⟩
   ·show K_1j K (K_1g K n) (some ⟨gh,oh,none⟩) b ⟨gw,0,none⟩ w=_
    rw[h1,hlen,h2]
   ·rw[K_yk (by rw[hcl,K_3,K_ia C m _ _ (K_fg C H bs)]) (by omega)]at b2
    exact b2
theorem K_15l{K:Nat} (hK:18446744073709551616≤K) {gh oh:Nat} {eh:TypeId} {C:List Int} (hC:C.length=80) (hg3:gh≠3) {w:World} {b:Sl} {bs H:List Int} {ch:List Value} (hin:∀ i,InK .u8 (bs.getD i 0))
  (hlim:bs.length≤140737488355328) (hH:H.length=8) (hch:oh+8≤ch.length) (hAt:(ch.drop oh).take 8=ints .u64 H)
  (hbv:∀ p,b.a=some p→bs≠[]→p.block<w.heap.size) (hbh:(∀ p,b.a=some p→p.block≠gh)∨bs.length<256) (hr:RdS .u8 w b bs) (hb:Bk eh w gh ch) (hT:Rd w ⟨3,0,none⟩ (ints .u64 C)):
  ∃ w',K_5u K (some ⟨gh,oh,none⟩) b w=some ((),w')∧Bk eh w' gh (seg ch oh (ints .u64 (comps64 C (bs.length / 128) H bs)))∧Upd (· =gh) w w':=by
 obtain⟨w1,n1,b1,u1,z1⟩:=K_g z175 175 w
 have b1:Bk 175 w1 w.heap.size (ints .u64 (List.replicate 80 0)):=by
  have e:z175.toList=ints .u64 (List.replicate 80 0):=by simp[z175,ints]
  rw[←e];exact b1
 have hlt:3<w.heap.size:=hT.lt (fun e=>by have:=congrArg List.length e;simp[hC]at this)
 obtain⟨w2,h2,b2,u2⟩:=K_11g hK hC (gw:=w.heap.size) (fun e=>by have:=hb.lt;omega) (by omega) hg3 (bs.length / 128) K w1 b bs H ch (List.replicate 80 0) hin rfl (by omega) hlim hH hch hAt
  (fun p hp hne e=>by have:=hbv p hp hne;omega) hbh (hr.upd0 u1) (hb.upd0 u1) b1 (by simp) (hT.upd u1 fun _=>id)
 refine⟨w2,?_,b2,(u1.mono fun _ _ e=>e.elim).trans' u2 fun k hk e=>by rcases e with e | e;exact e;omega⟩
 unfold K_5u
 rw[n1,bnd_ok,h2,bnd_ok]
end Go.Sh

namespace Go.Sh
open Go.Fw Go.Sha Go.RowKit Go.Proofs.Tryd
theorem K_129{κ:IntKind}{cs:List Value}{xs:List Int}{i:Nat}(ht:cs.take i=ints κ (xs.take i))(hi:i<xs.length)(hc:i<cs.length):(cs.set i (.int κ (xs.getD i 0))).take (i+1)=ints κ (xs.take (i+1)):=by
 have hl:(xs.take i).length=i:=by simp;omega
 have h1:cs.take (xs.take i).length=ints κ (xs.take i):=by rw[hl];exact ht
 have h2:=K_ei h1 (by rw[hl];exact hc) (xs.getD i 0)
 have h3:xs.take i ++ [xs.getD i 0]=xs.take (i+1):=by
  rw[List.take_add_one,J_ge hi,J_gd,J_ge hi];rfl
 rw[hl,h3]at h2
 have h4:(xs.take (i+1)).length=i+1:=by simp;omega
 rw[h4]at h2;exact h2
theorem lay'{e:TypeId}{w:World}{g:Nat}{cs vs:List Value}(hb:Bk e w g cs)(hl:vs.length=cs.length)(h1:∀ v∈vs,v.oneCell'=true):
  ∃ w',stA ⟨g,0,none⟩ vs.toArray w=some w'∧Bk e w' g vs∧Upd (· =g) w w'∧ldA vs.length ⟨g,0,none⟩ w'=some vs.toArray:=by
 obtain⟨w',a1,a2,a3⟩:=hb.stA (o:=0) (vs:=vs.toArray) (by simp[hl]) (fun v hv=>h1 v hv)
 have es:seg cs 0 vs=vs:=by
  simp only[seg,List.take_zero,List.nil_append,Nat.zero_add]
  rw[List.drop_eq_nil_of_le (by omega),List.append_nil]
 have a2:Bk e w' g vs:=by rw[←es];exact a2
 have hl:=a2.ldA (i:=0) (n:=vs.length) (by omega)
 rw[List.drop_zero,List.take_of_length_le (Nat.le_refl _)]at hl
 exact⟨w',a1,a2,a3,hl⟩
end Go.Sh

namespace Go.Sh
open Go.Fw Go.Sha Go.RowKit Go.Proofs.Tryd
end Go.Sh

namespace Go.Sh
open Go.Fw Go.RowKit Go.Proofs.Tryd
def kc(h:Int):List Value:=
 if h=224 then [.int .i64 28,.int .i64 64,.int .i64 4,.func (.func 113) #[] #[]]
 else if h=256 then [.int .i64 32,.int .i64 64,.int .i64 4,.func (.func 113) #[] #[]]
 else if h=384 then [.int .i64 48,.int .i64 128,.int .i64 8,.func (.func 114) #[] #[]]
 else if h=512 then [.int .i64 64,.int .i64 128,.int .i64 8,.func (.func 114) #[] #[]]
 else [.int .i64 0,.int .i64 0,.int .i64 0,.nilFunc]
def known(h:Int):Bool:=h == 224 || h == 256 || h == 384 || h == 512
theorem K_3l(h:Int):(kc h).length=4:=by
 unfold kc;repeat' split
 all_goals rfl
theorem K_xm(h:Int):∀ v∈kc h,v.oneCell'=true:=by
 unfold kc
 repeat' split
 all_goals (intro v hv;simp at hv;rcases hv with rfl | rfl | rfl | rfl <;> rfl)
theorem K_163:z138.toList=[.int .i64 0,.int .i64 0,.int .i64 0,.nilFunc]:=rfl
theorem built224:prog.built 138 [(0,(.int .i64 (IntKind.i64.wrap (Int.tdiv 224 8)))),(1,(.int .i64 64)),(2,(.int .i64 4)),(3,(.func (.func 113) #[] #[]))]=some (kc 224).toArray:=by kernel_rfl
theorem built256:prog.built 138 [(0,(.int .i64 (IntKind.i64.wrap (Int.tdiv 256 8)))),(1,(.int .i64 64)),(2,(.int .i64 4)),(3,(.func (.func 113) #[] #[]))]=some (kc 256).toArray:=by kernel_rfl
theorem built384:prog.built 138 [(0,(.int .i64 (IntKind.i64.wrap (Int.tdiv 384 8)))),(1,(.int .i64 128)),(2,(.int .i64 8)),(3,(.func (.func 114) #[] #[]))]=some (kc 384).toArray:=by kernel_rfl
theorem built512:prog.built 138 [(0,(.int .i64 (IntKind.i64.wrap (Int.tdiv 512 8)))),(1,(.int .i64 128)),(2,(.int .i64 8)),(3,(.func (.func 114) #[] #[]))]=some (kc 512).toArray:=by kernel_rfl
theorem built0:prog.built 138 []=some #[.int .i64 0,.int .i64 0,.int .i64 0,.nilFunc]:=by kernel_rfl
theorem K_143{h:Int}(hk:known h=false):kc h=[.int .i64 0,.int .i64 0,.int .i64 0,.nilFunc]:=by
 simp[known]at hk
 unfold kc
 rw[if_neg hk.1.1.1,if_neg hk.1.1.2,if_neg hk.1.2,if_neg hk.2]
theorem lay{e:TypeId}{w:World}{g:Nat}{cs vs:List Value}(hb:Bk e w g cs)(hl:vs.length=cs.length)(h1:∀ v∈vs,v.oneCell'=true):
  ∃ w',stA ⟨g,0,none⟩ vs.toArray w=some w'∧Bk e w' g vs∧Upd (· =g) w w'∧ldA vs.length ⟨g,0,none⟩ w'=some vs.toArray:=by
 obtain⟨w',a1,a2,a3⟩:=hb.stA (o:=0) (vs:=vs.toArray) (by simp[hl]) (fun v hv=>h1 v hv)
 have es:seg cs 0 vs=vs:=by
  simp only[seg,List.take_zero,List.nil_append,Nat.zero_add]
  rw[List.drop_eq_nil_of_le (by omega),List.append_nil]
 have a2:Bk e w' g vs:=by rw[←es];exact a2
 have hl:=a2.ldA (i:=0) (n:=vs.length) (by omega)
 rw[List.drop_zero,List.take_of_length_le (Nat.le_refl _)]at hl
 exact⟨w',a1,a2,a3,hl⟩
theorem K_zu{w:World}{cs:List Value}(v:List Value)(b:Bool)(hc:cs.length=4){g:Nat}(hb:Bk 138 w g cs)(hv:v.length=4)(h1:∀ x∈v,x.oneCell'=true):
  ∃ w',(if (v.toArray).size=4 then((stA ⟨g,0,none⟩ v.toArray w).bind fun w_6=>(ldA 4 ⟨g,0,none⟩ w_6).bind fun res_7=>some ((res_7,b,()),w_6)) else none)=some ((v.toArray,b,()),w')∧Upd (· =g) w w':=by
 obtain⟨w',a1,a2,a3,a4⟩:=lay hb (by omega) h1
 rw[hv]at a4
 refine⟨w',?_,a3⟩
 rw[if_pos (by simpa using hv),a1,J_bs,a4,J_bs]
theorem K_122(h:Int)(w:World):∃ w',K_6q h w=some (((kc h).toArray,known h,()),w')∧Upd none_ w w':=by
 obtain⟨w1,n1,b1,u1,z1⟩:=K_g z138 138 w
 have b1:Bk 138 w1 w.heap.size z138.toList:=b1
 obtain⟨w2,e2,u2⟩:=K_zu (kc h) (known h) (by rw[K_163];rfl) b1 (K_3l h) (K_xm h)
 refine⟨w2,?_,u1.trans' u2 fun k hk e=>by omega⟩
 unfold K_6q
 rw[n1,bnd_ok]
 by_cases c1:h=224
 ·subst c1
  have s0:K_2t 224 ((224:Int) == 224) w1=some ((true,()),w1):=rfl
  rw[s0,bnd_ok,if_pos rfl,built224,J_bs]
  exact e2
 by_cases c2:h=256
 ·subst c2
  have s0:K_2t 256 ((256:Int) == 224) w1=some ((true,()),w1):=rfl
  rw[s0,bnd_ok,if_pos rfl,built256,J_bs]
  exact e2
 have s0:K_2t h (h == 224) w1=some ((false,()),w1):=by
  have q1:(h == 224)=false:=by simpa using c1
  have q2:(h == 256)=false:=by simpa using c2
  unfold K_2t;rw[q1,q2];rfl
 rw[s0,bnd_ok,if_neg (by decide)]
 by_cases c3:h=384
 ·subst c3
  have s1:K_2u 384 ((384:Int) == 384) w1=some ((true,()),w1):=rfl
  rw[s1,bnd_ok,if_pos rfl,built384,J_bs]
  exact e2
 by_cases c4:h=512
 ·subst c4
  have s1:K_2u 512 ((512:Int) == 384) w1=some ((true,()),w1):=rfl
  rw[s1,bnd_ok,if_pos rfl,built512,J_bs]
  exact e2
 have s1:K_2u h (h == 384) w1=some ((false,()),w1):=by
  have q1:(h == 384)=false:=by simpa using c3
  have q2:(h == 512)=false:=by simpa using c4
  unfold K_2u;rw[q1,q2];rfl
 have hk:known h=false:=by simp[known,c1,c2,c3,c4]
 rw[s1,bnd_ok,if_neg (by decide),built0,J_bs]
 rw[K_143 hk,hk]at e2 ⊢
 exact e2
end Go.Sh

namespace Go.Sh
open Go.Fw Go.Sha Go.RowKit Go.Proofs.Tryd
def fw1(S:List Int)(h:Int)(i:Nat):Int:=
 if h=224 then Int.tmod (S.getD (8+i) 0) 4294967296 else if h=256 then Int.fdiv (S.getD i 0) (2 ^ 32) else if h=384 then S.getD (8+i) 0 else if h=512 then S.getD i 0 else 0
def firstH(S:List Int)(h:Int):List Int:=(List.range 8).map (fw1 S h)
theorem K_3k(S:List Int)(h:Int):(firstH S h).length=8:=by simp[firstH]
theorem K_10i(S:List Int)(h:Int){i:Nat}(hi:i<8):(firstH S h).getD i 0=fw1 S h i:=by
 simp[firstH,J_gd,hi]
theorem K_dp{h:Int}(hk:known h=true):h=224∨h=256∨h=384∨h=512:=by
 simp[known]at hk
 rcases hk with ((h | h) | h) | h <;> simp[h]
theorem and32{x:Int}(hx:InK .u64 x):bits .and .u64 x 4294967295=Int.tmod x 4294967296:=by
 obtain⟨n,rfl,hn⟩:=hx.nat
 have h1:=(K_7x (k:=.u64) rfl hn (show 4294967295<2 ^ IntKind.u64.bits by decide)).1
 have h2:n &&& 4294967295=n % 4294967296:=Nat.and_two_pow_sub_one_eq_mod n 32
 rw[h2]at h1
 exact h1.trans (K_de n 4294967296).symm
theorem rd_ld{w:World}{g:Nat}{S:List Int}(h:Rd w ⟨g,0,none⟩ (ints .u64 S)){i:Nat}(hi:i<S.length):ldI .u64 ⟨g,i,none⟩ w=some (S.getD i 0):=by
 have:=h i (.int .u64 (S.getD i 0)) (by simp[ints,J_gd,hi])
 rw[add_lit,Nat.zero_add]at this
 simp[ldI,this,asI]
theorem K_zx(K:Nat){h:Int}(hk:known h=true){S:List Int}(hS:S.length=16)(hin:∀ i,InK .u64 (S.getD i 0)){gh:Nat}(hg:gh≠4):
  ∀ (d i n:Nat) (w:World) (cs:List Value),i+d=8→d<n→Rd w ⟨4,0,none⟩ (ints .u64 S)→Bk 150 w gh cs→cs.length=8→cs.take i=ints .u64 ((firstH S h).take i)→
   ∃ w',K_v K n h ⟨gh,0,none⟩ (i:Int) w=some ((),w')∧Bk 150 w' gh (ints .u64 (firstH S h))∧Upd (· =gh) w w':=by
 intro d
 induction d with
 | zero=>
  intro i n w cs hi hn hT hb hc ht
  obtain⟨n,rfl⟩:∃ m,n=m+1:=⟨n - 1,by omega⟩
  have:i=8:=by omega
  subst this
  rw[List.take_of_length_le (by omega),List.take_of_length_le (by rw[K_3k];decide)]at ht
  refine⟨w,?_,ht ▸ hb,Upd.refl _ _⟩
  show K_1e K (K_v K n) h ⟨gh,0,none⟩ ((8:Nat):Int) w=_
  simp[K_1e]
 | succ d ih=>
  intro i n w cs hi hn hT hb hc ht
  obtain⟨n,rfl⟩:∃ m,n=m+1:=⟨n - 1,by omega⟩
  have hd:decide ((i:Int)<8)=true:=by simp;omega
  have e1:IntKind.i64.wrap ((i:Int)+1)=((i+1:Nat):Int):=by rw[w64 (by omega) (by omega)];rfl
  have e8:IntKind.i64.wrap (8+(i:Int))=((8+i:Nat):Int):=by rw[w64 (by omega) (by omega)];rfl
  have c8:(0:Int)≤((8+i:Nat):Int)∧((8+i:Nat):Int)<((16:Nat):Int):=by omega
  have c16:(0:Int)≤(i:Int)∧(i:Int)<((16:Nat):Int):=by omega
  have c0:(0:Int)≤(i:Int)∧(i:Int)<((8:Nat):Int):=by omega
  have l8:=rd_ld hT (i:=8+i) (by omega)
  have l0:=rd_ld hT (i:=i) (by omega)
  have hx:=K_10i S h (i:=i) (by omega)
  obtain⟨w1,s1,s2,s3⟩:=hb.stC (i:=i) (by omega) (.int .u64 ((firstH S h).getD i 0))
  obtain⟨w2,h1,h2,h3⟩:=ih (i+1) n w1 _ (by omega) (by omega) (hT.upd s3 fun _ e=>hg e.symm) s2 (by simpa using hc) (K_129 ht (by rw[K_3k];omega) (by omega))
  refine⟨w2,?_,h2,s3.trans' h3 fun _ _ e=>e⟩
  show K_1e K (K_v K n) h ⟨gh,0,none⟩ (i:Int) w=_
  rw[hx]at s1
  unfold K_1e
  rcases K_dp hk with e | e | e | e
  ·subst e
   rw[hd,if_pos rfl,if_pos (by decide),e8,if_pos c8]
   simp only[J_tn,add_lit,Nat.mul_one,Nat.zero_add]
   rw[l8,J_bs,if_pos c0]
   have s1:stC ⟨gh,i,none⟩ (.int .u64 (Int.tmod (S.getD (8+i) 0) 4294967296)) w=some w1:=s1
   rw[and32 (hin _),s1,J_bs,e1,h1]
  ·subst e
   rw[hd,if_pos rfl,if_neg (by decide),if_pos (by decide),if_pos c16]
   simp only[J_tn,add_lit,Nat.mul_one,Nat.zero_add]
   rw[l0,J_bs,if_pos c0]
   have s1:stC ⟨gh,i,none⟩ (.int .u64 (Int.fdiv (S.getD i 0) (2 ^ 32))) w=some w1:=s1
   rw[s1,J_bs,e1,h1]
  ·subst e
   rw[hd,if_pos rfl,if_neg (by decide),if_neg (by decide),if_pos (by decide),e8,if_pos c8]
   simp only[J_tn,add_lit,Nat.mul_one,Nat.zero_add]
   rw[l8,J_bs,if_pos c0]
   have s1:stC ⟨gh,i,none⟩ (.int .u64 (S.getD (8+i) 0)) w=some w1:=s1
   rw[s1,J_bs,e1,h1]
  ·subst e
   rw[hd,if_pos rfl,if_neg (by decide),if_neg (by decide),if_neg (by decide),if_pos (by decide),if_pos c16]
   simp only[J_tn,add_lit,Nat.mul_one,Nat.zero_add]
   rw[l0,J_bs,if_pos c0]
   have s1:stC ⟨gh,i,none⟩ (.int .u64 (S.getD i 0)) w=some w1:=s1
   rw[s1,J_bs,e1,h1]
theorem K_13f{K:Nat}(hK:18446744073709551616≤K){h:Int}(hk:known h=true){S:List Int}(hS:S.length=16)(hin:∀ i,InK .u64 (S.getD i 0)){w:World}(hT:Rd w ⟨4,0,none⟩ (ints .u64 S)):
  ∃ w',K_4q K h w=some (((ints .u64 (firstH S h)).toArray,()),w')∧Upd none_ w w':=by
 have hR:4<w.heap.size:=hT.lt (fun e=>by have:=congrArg List.length e;simp[hS]at this)
 obtain⟨w1,n1,b1,u1,z1⟩:=K_g z150 150 w
 have b1:Bk 150 w1 w.heap.size z150.toList:=b1
 obtain⟨w3,h3,b3,u3⟩:=K_zx K hk hS hin (gh:=w.heap.size) (by omega) 8 0 K w1 _ rfl (by omega) (hT.upd u1 fun _=>id) b1 rfl (by simp)
 have h3:K_v K K h ⟨w.heap.size,0,none⟩ 0 w1=_:=h3
 have hl8:(ints .u64 (firstH S h)).length=8:=by rw[K_3,K_3k]
 have l3:=b3.ldA (i:=0) (n:=8) (by rw[hl8];decide)
 rw[List.drop_zero,List.take_of_length_le (by rw[hl8];decide)]at l3
 obtain⟨w4,a1,a2,a3,a4⟩:=lay' b3 (vs:=ints .u64 (firstH S h)) rfl K_z
 rw[hl8]at a4
 refine⟨w4,?_,(u1.trans' u3 fun k hk e=>by omega).trans' a3 fun k hk e=>by omega⟩
 unfold K_4q
 rw[n1,bnd_ok,h3,bnd_ok,l3,J_bs,if_pos (by rw[List.size_toArray,hl8]),a1,J_bs,a4,J_bs]
end Go.Sh

namespace Go.Sh
open Go.Fw Go.Sha Go.RowKit Go.Proofs.Tryd
theorem sizeB:(prog.info? 5).map (·.size)=some 1:=by kernel_rfl
theorem K_161{w:World}{b:Sl}{vs:List Value}(hx:Src w b vs){e:TypeId}{g o dLen dCap:Nat}{cs:List Value}(hb:Bk e w g cs)(hl:o+min b.len dLen≤cs.length):
  ∃ w',cpy prog 23 23 (.slice (some ⟨g,o,none⟩) dLen dCap) (.slice b.a b.len b.cap) w=some (((min b.len dLen:Nat):Int),w')∧Bk e w' g (seg cs o (vs.take (min b.len dLen)))∧Upd (· =g) w w':=by
 have hlen:=hx.len
 rcases hx.rd with ⟨h1,h2,h3⟩ | ⟨p,h1,h2⟩
 ·have h0:b.len=0:=by rw[hlen,h3];rfl
  have hr:=run_copy_nil (P:=prog) w 23 23 0 5 ⟨g,o,none⟩ dLen dCap sliceB.ht (by rw[sizeB];rfl)
  refine⟨w,?_,?_,Upd.refl _ _⟩
  ·unfold cpy
   rw[h1,h0,h2,hr]
   simp[goInt]
  ·rw[h3];simpa[seg] using hb
 ·have hr:=run_copy_row (P:=prog) w 23 23 0 5 g o dLen dCap p b.len b.cap cs.toArray e (vs.take (min b.len dLen)) sliceB.ht sizeB hb (by simp[hlen])
   (fun j v hv=>h2 j v (by
    rw[List.getElem?_take]at hv
    split at hv
    ·exact hv
    ·cases hv)) (by simp[hlen]at hl ⊢;omega) (fun v hv=>hx.one v (List.mem_of_mem_take hv))
  refine⟨w.setRow g (cs.take o ++ vs.take (min b.len dLen) ++ cs.drop (o+(vs.take (min b.len dLen)).length)).toArray,?_,?_,Upd.setRow w g _⟩
  ·unfold cpy
   rw[h1,hr]
   have:(vs.take (min b.len dLen)).length=min b.len dLen:=by simp[hlen]
   simp only[goInt,this]
  ·have:=hb.setRow (cs.take o ++ vs.take (min b.len dLen) ++ cs.drop (o+(vs.take (min b.len dLen)).length)).toArray
   simpa[seg] using this
theorem K_15p{cs xs:List Value}{o:Nat}(h:o+xs.length≤cs.length){i:Nat}(hi:i<xs.length)(v:Value):(seg cs o xs).set (o+i) v=seg cs o (xs.set i v):=by
 apply List.ext_getElem?
 intro j
 rw[List.getElem?_set,K_r h,K_10 h,K_10 (by simpa using h),List.length_set]
 by_cases h1:o+i=j
 ·subst h1
  rw[if_pos rfl,if_pos (by omega),if_neg (by omega),if_pos (by omega)]
  simp[hi]
 ·rw[if_neg h1]
  by_cases h2:j<o
  ·simp[h2]
  ·rw[if_neg h2,if_neg h2]
   by_cases h3:j<o+xs.length
   ·rw[if_pos h3,if_pos h3,List.getElem?_set_ne (by omega)]
   ·rw[if_neg h3,if_neg h3]
theorem K_11p{cs xs ys:List Value}{o i:Nat}(h:o+xs.length≤cs.length)(hi:i+ys.length≤xs.length):seg (seg cs o xs) (o+i) ys=seg cs o (seg xs i ys):=by
 apply List.ext_getElem?
 intro j
 rw[K_10 (by rw[K_r h];omega),K_10 h,K_10 (by rw[K_r hi];exact h),K_r hi]
 by_cases h1:j<o
 ·rw[if_pos (by omega),if_pos h1,if_pos h1]
 ·by_cases h2:j<o+i
  ·rw[if_pos h2,if_neg h1,if_pos (by omega),if_neg h1,if_pos (by omega),K_10 hi,if_pos (by omega)]
  ·rw[if_neg h2]
   by_cases h3:j<o+i+ys.length
   ·rw[if_pos h3,if_neg h1,if_pos (by omega),K_10 hi,if_neg (by omega),if_pos (by omega),show j - (o+i)=j - o - i by omega]
   ·rw[if_neg h3,if_neg h1]
    by_cases h4:j<o+xs.length
    ·rw[if_pos h4,if_neg h1,if_pos h4,K_10 hi,if_neg (by omega),if_neg (by omega)]
    ·rw[if_neg h4,if_neg h1,if_neg h4]
def stCells(h:Int)(cnt:Nat)(H half:List Int):List Value:=kc h ++ ([.int .i64 h,.int .u64 (cnt:Int)] ++ (ints .u64 H ++ ints .u8 half))
theorem K_26(h:Int)(cnt:Nat){H half:List Int}(hH:H.length=8)(hh:half.length=128):(stCells h cnt H half).length=142:=by
 simp[stCells,K_3l,hH,hh]
theorem K_vr(h:Int)(cnt cnt':Nat)(H half:List Int):(stCells h cnt H half).set 5 (.int .u64 (cnt':Int))=stCells h cnt' H half:=by
 unfold stCells
 have:5=(kc h).length+1:=by rw[K_3l]
 rw[this,List.set_append_right _ _ (by omega)]
 simp
theorem K_vv(h:Int)(cnt:Nat){H H' half:List Int}(hH:H.length=8)(hH':H'.length=8):seg (stCells h cnt H half) 6 (ints .u64 H')=stCells h cnt H' half:=by
 unfold stCells seg
 have e1:(kc h ++ ([Value.int .i64 h,.int .u64 (cnt:Int)] ++ (ints .u64 H ++ ints .u8 half)))=(kc h ++ [Value.int .i64 h,.int .u64 (cnt:Int)]) ++ (ints .u64 H ++ ints .u8 half):=by simp
 have l1:(kc h ++ [Value.int .i64 h,.int .u64 (cnt:Int)]).length=6:=by simp[K_3l]
 rw[e1,List.take_left' l1]
 have e2:((kc h ++ [Value.int .i64 h,.int .u64 (cnt:Int)]) ++ (ints .u64 H ++ ints .u8 half)).drop (6+(ints .u64 H').length)=ints .u8 half:=by
  rw[←List.append_assoc]
  exact List.drop_left' (by rw[List.length_append,l1,K_3,K_3,hH,hH'])
 rw[e2]
 simp
theorem K_wa(h:Int)(cnt:Nat){H half ys:List Int}(hH:H.length=8){at_:Nat}(hl:at_+ys.length≤half.length):seg (stCells h cnt H half) (14+at_) (ints .u8 ys)=stCells h cnt H (over half at_ ys):=by
 unfold stCells
 have e1:∀ q:List Int,(kc h ++ ([Value.int .i64 h,.int .u64 (cnt:Int)] ++ (ints .u64 H ++ ints .u8 q)))=(kc h ++ [Value.int .i64 h,.int .u64 (cnt:Int)] ++ ints .u64 H) ++ ints .u8 q:=fun q=>by simp
 have l1:(kc h ++ [Value.int .i64 h,.int .u64 (cnt:Int)] ++ ints .u64 H).length=14:=by simp[K_3l,hH]
 rw[e1,e1]
 unfold seg
 have t1:((kc h ++ [Value.int .i64 h,.int .u64 (cnt:Int)] ++ ints .u64 H) ++ ints .u8 half).take (14+at_)=(kc h ++ [Value.int .i64 h,.int .u64 (cnt:Int)] ++ ints .u64 H) ++ ints .u8 (half.take at_):=by
  rw[List.take_append,l1,List.take_of_length_le (by omega),show 14+at_ - 14=at_ by omega,K_9f]
 have t2:((kc h ++ [Value.int .i64 h,.int .u64 (cnt:Int)] ++ ints .u64 H) ++ ints .u8 half).drop (14+at_+(ints .u8 ys).length)=ints .u8 (half.drop (at_+ys.length)):=by
  rw[List.drop_append,l1,List.drop_eq_nil_of_le (by omega),List.nil_append,K_3,show 14+at_+ys.length - 14=at_+ys.length by omega]
  simp[ints,List.map_drop]
 rw[t1,t2]
 unfold over
 rw[K_3i,K_3i]
 simp
theorem K_h7{h:Int}{cnt:Nat}{H half:List Int}(hH:H.length=8)(hh:half.length=128){cs:List Value}{o:Nat}(hl:o+142≤cs.length){i:Nat}(hi:i<142):(seg cs o (stCells h cnt H half))[o+i]? =(stCells h cnt H half)[i]?:=by
 have hlen:=K_26 h cnt hH hh
 rw[K_10 (by omega),if_neg (by omega),if_pos (by omega),show o+i - o=i by omega]
theorem K_12o{h:Int}(hk:known h=true)(cnt:Nat)(H half:List Int):(stCells h cnt H half)[1]? =some (.int .i64 ((blk h:Nat):Int))∧(stCells h cnt H half)[5]? =some (.int .u64 (cnt:Int))∧
  (stCells h cnt H half)[3]? =some (.func (.func (if narrowB h=true then 113 else 114)) #[] #[]):=by
 rcases K_dp hk with e | e | e | e <;> subst e <;> exact⟨rfl,rfl,rfl⟩
theorem K_ui{h:Int}(hk:known h=true):blk h=64∨blk h=128:=by unfold blk;split <;> simp
theorem K_su{β:Type}(K:Nat)(h:Int)(p:Option Addr)(s:Sl)(w:World)(k:Value→World→Option β):
  dyn (tab (K_42 K)) (.func (.func (if narrowB h=true then 113 else 114)) #[] #[]) [.pointer p,.slice s.a s.len s.cap] w k =
   bnd (if narrowB h=true then K_3w K p s w else K_5u K p s w) fun _ w'=>k (.tuple #[]) w':=by
 cases hn:narrowB h <;> rfl
theorem K_11u{K:Nat} (hK:18446744073709551616≤K) (h:Int) {gh oh:Nat} {eh:TypeId} {C:List Int} (hC:C.length=80) (hg3:gh≠3) {w:World} {b:Sl} {bs H:List Int} {ch:List Value} (hin:∀ i,InK .u8 (bs.getD i 0))
  (hlim:bs.length≤140737488355328) (hH:H.length=8) (hch:oh+8≤ch.length) (hAt:(ch.drop oh).take 8=ints .u64 H)
  (hbv:∀ p,b.a=some p→bs≠[]→p.block<w.heap.size) (hbh:(∀ p,b.a=some p→p.block≠gh)∨bs.length<2*blk h) (hr:RdS .u8 w b bs) (hb:Bk eh w gh ch) (hT:Rd w ⟨3,0,none⟩ (ints .u64 C)):
  ∃ w',(if narrowB h=true then K_3w K (some ⟨gh,oh,none⟩) b w else K_5u K (some ⟨gh,oh,none⟩) b w)=some ((),w')∧Bk eh w' gh (seg ch oh (ints .u64 (compsH h C (bs.length / blk h) H bs)))∧Upd (· =gh) w w':=by
 unfold compsH
 unfold blk at*
 cases hn:narrowB h with
 | true=>
  rw[hn]at hbh
  simp only[if_true]at hbh ⊢
  exact K_10x hK hC hg3 hlim hH hch hAt hbv (hbh.imp id fun h=>by omega) hr hb hT
 | false=>
  rw[hn]at hbh
  simp only[Bool.false_eq_true,if_false]at hbh ⊢
  exact K_15l hK hC hg3 hin hlim hH hch hAt hbv (hbh.imp id fun h=>by omega) hr hb hT
theorem inD{l:List Int}(h:∀ x∈l,InK .u8 x)(i:Nat):InK .u8 (l.getD i 0):=by
 by_cases hi:i<l.length
 ·rw[J_gd,J_ge hi];exact h _ (List.getElem_mem hi)
 ·rw[J_gd,List.getElem?_eq_none (by omega)];exact⟨by decide,by decide⟩
theorem K_14h{l ys:List Int}{o:Nat}(h:∀ x∈l,InK .u8 x)(h2:∀ x∈ys,InK .u8 x):∀ x∈over l o ys,InK .u8 x:=by
 intro x hx
 unfold over at hx
 simp only[List.mem_append]at hx
 rcases hx with (hx | hx) | hx
 ·exact h x (List.mem_of_mem_take hx)
 ·exact h2 x hx
 ·exact h x (List.mem_of_mem_drop hx)
structure StAt(w:World) (e:TypeId) (g o:Nat) (cs0:List Value) (h:Int) (cnt:Nat) (H half:List Int):Prop where
 bk:Bk e w g (seg cs0 o (stCells h cnt H half))
 room:o+142≤cs0.length
 words:H.length=8
 len:half.length=128
 inn:∀ x∈half,InK .u8 x
theorem StAt.upd{w w':World}{e:TypeId}{g o:Nat}{cs0:List Value}{h:Int}{cnt:Nat}{H half:List Int}{S:Nat→Prop}(s:StAt w e g o cs0 h cnt H half)(u:Upd S w w')(hn:¬S g):StAt w' e g o cs0 h cnt H half:=
 ⟨s.bk.upd u hn,s.room,s.words,s.len,s.inn⟩
theorem StAt.drew{w:World}{e:TypeId}{g o:Nat}{cs0:List Value}{h:Int}{cnt:Nat}{H half:List Int}(s:StAt w e g o cs0 h cnt H half):StAt w.drew e g o cs0 h cnt H half:=⟨s.bk.drew,s.room,s.words,s.len,s.inn⟩
theorem StAt.ld{w:World}{e:TypeId}{g o:Nat}{cs0:List Value}{h:Int}{cnt:Nat}{H half:List Int}(s:StAt w e g o cs0 h cnt H half)(hk:known h=true):
  ldI .i64 ⟨g,o+1,none⟩ w=some ((blk h:Nat):Int)∧ldI .u64 ⟨g,o+5,none⟩ w=some (cnt:Int)∧ldV ⟨g,o+3,none⟩ w=some (.func (.func (if narrowB h=true then 113 else 114)) #[] #[]):=by
 obtain⟨h1,h2,h3⟩:=K_12o hk cnt H half
 exact⟨s.bk.ldI ((K_h7 s.words s.len s.room (by decide)).trans h1),s.bk.ldI ((K_h7 s.words s.len s.room (by decide)).trans h2),s.bk.ldV ((K_h7 s.words s.len s.room (by decide)).trans h3)⟩
theorem StAt.at8{w:World}{e:TypeId}{g o:Nat}{cs0:List Value}{h:Int}{cnt:Nat}{H half:List Int}(s:StAt w e g o cs0 h cnt H half):((seg cs0 o (stCells h cnt H half)).drop (o+6)).take 8=ints .u64 H:=by
 apply List.ext_getElem?
 intro i
 rw[List.getElem?_take]
 by_cases hi:i<8
 ·rw[if_pos hi,List.getElem?_drop,show o+6+i=o+(6+i) by omega,K_h7 s.words s.len s.room (by omega)]
  unfold stCells
  rw[List.getElem?_append_right (by rw[K_3l];omega),List.getElem?_append_right (by rw[K_3l];simp;omega),List.getElem?_append_left (by rw[K_3l,K_3,s.words];simp;omega)]
  rw[K_3l]
  congr 1
  simp;omega
 ·rw[if_neg hi,List.getElem?_eq_none (by rw[K_3,s.words];omega)]
theorem StAt.half_rd{w:World}{e:TypeId}{g o:Nat}{cs0:List Value}{h:Int}{cnt:Nat}{H half:List Int}(s:StAt w e g o cs0 h cnt H half){n:Nat}(hn:n≤128):RdS .u8 w ⟨some ⟨g,o+14,none⟩,n,128⟩ (half.take n):=by
 refine⟨by simp[s.len];omega,hn,.inr ⟨_,rfl,fun i v hv=>?_⟩⟩
 rw[add_lit,s.bk.cell,show o+14+i=o+(14+i) by omega]
 have hi:i<n:=by
  have:=(List.getElem?_eq_some_iff.1 hv).1
  simp at this;omega
 rw[K_h7 s.words s.len s.room (by omega)]
 unfold stCells
 rw[List.getElem?_append_right (by rw[K_3l];omega),List.getElem?_append_right (by rw[K_3l];simp;omega),List.getElem?_append_right (by rw[K_3l,K_3,s.words];simp;omega)]
 rw[K_3l,K_3,s.words]
 simp only[List.length_cons,List.length_nil]
 rw[←hv]
 simp only[ints,List.getElem?_map,List.getElem?_take,if_pos hi]
 congr 2
 omega
theorem StAt.count{w:World}{e:TypeId}{g o:Nat}{cs0:List Value}{h:Int}{cnt:Nat}{H half:List Int}(s:StAt w e g o cs0 h cnt H half)(cnt':Nat):
  ∃ w',stC ⟨g,o+5,none⟩ (.int .u64 (cnt':Int)) w=some w'∧StAt w' e g o cs0 h cnt' H half∧Upd (· =g) w w':=by
 have hl:=K_26 h cnt s.words s.len
 have hr:=s.room
 obtain⟨w',s1,s2,s3⟩:=s.bk.stC (i:=o+5) (by rw[K_r (by omega)];omega) (.int .u64 (cnt':Int))
 rw[K_15p (by omega) (by omega),K_vr]at s2
 exact⟨w',s1,⟨s2,s.room,s.words,s.len,s.inn⟩,s3⟩
theorem StAt.cpy{w:World}{e:TypeId}{g o:Nat}{cs0:List Value}{h:Int}{cnt:Nat}{H half:List Int}(s:StAt w e g o cs0 h cnt H half){b:Sl}{ys:List Int}(hx:Src w b (ints .u8 ys))(hy:∀ x∈ys,InK .u8 x){at_ dLen dCap:Nat}(hd:at_+dLen≤128):
  ∃ w',Fw.cpy prog 23 23 (.slice (some ⟨g,o+14+at_,none⟩) dLen dCap) (.slice b.a b.len b.cap) w=some (((min b.len dLen:Nat):Int),w')∧StAt w' e g o cs0 h cnt H (over half at_ (ys.take (min b.len dLen)))∧Upd (· =g) w w':=by
 have hl:=K_26 h cnt s.words s.len
 have hr:=s.room
 have hbl:b.len=ys.length:=by simpa using hx.len
 obtain⟨w',c1,c2,c3⟩:=K_161 hx s.bk (o:=o+14+at_) (dLen:=dLen) (dCap:=dCap) (by rw[K_r (by omega)];omega)
 have hml:(ys.take (min b.len dLen)).length≤dLen:=by simp;omega
 rw[K_9f,show o+14+at_=o+(14+at_) by omega,K_11p (by omega) (by rw[K_3,hl];omega),K_wa h cnt s.words (by rw[s.len];omega)]at c2
 refine⟨w',c1,⟨c2,s.room,s.words,by rw[K_kw (by rw[s.len];omega)];exact s.len,K_14h s.inn fun x hx=>hy x (List.mem_of_mem_take hx)⟩,c3⟩
theorem StAt.blocks{K:Nat} (hK:18446744073709551616≤K) {w:World} {e:TypeId} {g o:Nat} {cs0:List Value} {h:Int} {cnt:Nat} {H half C:List Int} (s:StAt w e g o cs0 h cnt H half) (hC:C.length=80) (hg3:g≠3) (hT:Rd w ⟨3,0,none⟩ (ints .u64 C))
  {b:Sl} {bs:List Int} (hin:∀ i,InK .u8 (bs.getD i 0)) (hlim:bs.length≤140737488355328) (hbv:∀ p,b.a=some p→bs≠[]→p.block<w.heap.size) (hbh:(∀ p,b.a=some p→p.block≠g)∨bs.length<2*blk h) (hr:RdS .u8 w b bs):
  ∃ w',(if narrowB h=true then K_3w K (some ⟨g,o+6,none⟩) b w else K_5u K (some ⟨g,o+6,none⟩) b w)=some ((),w')∧StAt w' e g o cs0 h cnt (compsH h C (bs.length / blk h) H bs) half∧Upd (· =g) w w':=by
 have hl:=K_26 h cnt s.words s.len
 have hrm:=s.room
 obtain⟨w',c1,c2,c3⟩:=K_11u hK h hC hg3 hin hlim s.words (oh:=o+6) (by rw[K_r (by omega)];omega) s.at8 hbv hbh hr s.bk hT
 have hcl:=K_103 h C (bs.length / blk h) H bs s.words
 rw[K_11p (by omega) (by rw[K_3,hcl,hl];decide),K_vv h cnt s.words hcl]at c2
 exact⟨w',c1,⟨c2,s.room,hcl,s.len,s.inn⟩,c3⟩
end Go.Sh

namespace Go.Sh
open Go.Fw Go.Sha Go.RowKit Go.Proofs.Tryd
theorem K_x7{p:Addr}{lo m:Nat}(h:m≠lo):sla (some p) lo m 1=some (p.add lo):=by simp[sla,h]
theorem K_yw{w:World}{s:Sl}{vs:List Value}(h:Src w s vs){lo:Nat}(h1:lo≤vs.length):Src w ⟨sla s.a lo s.cap 1,s.len - lo,s.cap - lo⟩ (vs.drop lo):=by
 have hl:=h.len
 have hc:=h.cap
 refine⟨by simp;omega,by show s.len - lo≤s.cap - lo;omega,?_,fun v hv=>h.one v (List.mem_of_mem_drop hv)⟩
 rcases h.rd with ⟨a1,a2,a3⟩ | ⟨p,a1,a2⟩
 ·left
  refine⟨by simp[sla,a1],by show s.cap - lo=0;omega,by rw[a3];simp⟩
 ·right
  by_cases hm:s.cap=lo
  ·refine⟨p,by simp[sla,a1,hm],fun i v hv=>?_⟩
   have:vs.drop lo=[]:=List.drop_eq_nil_of_le (by omega)
   rw[this]at hv;simp at hv
  ·refine⟨p.add lo,by rw[a1,K_x7 hm],fun i v hv=>?_⟩
   rw[K_z8]
   rw[List.getElem?_drop]at hv
   exact a2 _ _ hv
theorem K_yu{a:Option Addr}{lo m:Nat}{q:Addr}(h:sla a lo m 1=some q):∃ p,a=some p∧q.block=p.block:=by
 unfold sla at h
 split at h
 ·exact⟨q,h,rfl⟩
 ·cases ha:a with
  | none=>rw[ha]at h;simp at h
  | some p=>rw[ha]at h;simp at h;exact⟨p,rfl,by rw[←h];unfold Addr.add;split <;> rfl⟩
theorem K_ma{S:Nat→Prop}{w w':World}{s:Sl}{xs:List Int}(h:Src w s (ints .u8 xs))(u:Upd S w w')(hn:∀ p,s.a=some p→xs≠[]→¬S p.block):Src w' s (ints .u8 xs):=
 ⟨h.len,h.cap,h.rd.imp id fun⟨p,hp,hr⟩=>⟨p,hp,hr.upd u fun hne=>hn p hp fun e=>hne (by rw[e];rfl)⟩,h.one⟩
theorem K_ur{K:Nat} (hK:18446744073709551616≤K) {w:World} {e:TypeId} {g o:Nat} {cs0:List Value} {h:Int} (hk:known h=true) {cnt:Nat} {H half C H0 xs:List Int} (s:StAt w e g o cs0 h cnt H half) (f:Fed h C H0 xs H half) (hz:xs.length % blk h=0)
  (hC:C.length=80) (hg3:g≠3) (hT:Rd w ⟨3,0,none⟩ (ints .u64 C)) {b:Sl} {ys:List Int} (hy:∀ x∈ys,InK .u8 x) (hlim:ys.length≤140737488355328) (hx:Src w b (ints .u8 ys)) (hbg:∀ p,b.a=some p→ys≠[]→p.block≠g) (hbv:∀ p,b.a=some p→ys≠[]→p.block<w.heap.size)
  (rest:Option (Unit×World)):
  ∃ w' H' half',((ldI .i64 ⟨g,o+1,none⟩ w.drew).bind fun v_29=>if v_29≠0 then((ldI .i64 ⟨g,o+1,none⟩ w.drew).bind fun v_30=>
    if (0:Int)≤(IntKind.i64.wrap ((IntKind.i64.wrap (Int.tdiv ((b.len:Nat):Int) v_29))*v_30))∧(IntKind.i64.wrap ((IntKind.i64.wrap (Int.tdiv ((b.len:Nat):Int) v_29))*v_30))≤((b.cap:Nat):Int) then((ldV ⟨g,o+3,none⟩ w.drew.drew).bind fun v_33=>
    dyn (tab (K_42 K)) v_33 [(.pointer (some ⟨g,o+6,none⟩)),(.slice (sla b.a 0 b.cap 1) ((Int.toNat (IntKind.i64.wrap ((IntKind.i64.wrap (Int.tdiv ((b.len:Nat):Int) v_29))*v_30))) - 0) (b.cap - 0))] w.drew.drew fun v_34 w_35=>
    if (0:Int)≤(IntKind.i64.wrap ((IntKind.i64.wrap (Int.tdiv ((b.len:Nat):Int) v_29))*v_30))∧(IntKind.i64.wrap ((IntKind.i64.wrap (Int.tdiv ((b.len:Nat):Int) v_29))*v_30))≤((b.len:Nat):Int) then
     (bnd (Fw.cpy prog 23 23 (.slice (sla (some ⟨g,o+14,none⟩) 0 128 1) (128 - 0) (128 - 0)) (.slice (sla b.a (Int.toNat (IntKind.i64.wrap ((IntKind.i64.wrap (Int.tdiv ((b.len:Nat):Int) v_29))*v_30))) b.cap 1) (b.len - (Int.toNat (IntKind.i64.wrap ((IntKind.i64.wrap (Int.tdiv ((b.len:Nat):Int) v_29))*v_30)))) (b.cap - (Int.toNat (IntKind.i64.wrap ((IntKind.i64.wrap (Int.tdiv ((b.len:Nat):Int) v_29))*v_30))))) w_35.drew) fun s_37 w_38=>some ((),w_38)) else none) else none) else none)=some ((),w')∧
   StAt w' e g o cs0 h cnt H' half'∧Fed h C H0 (xs ++ ys) H' half'∧Upd (· =g) w w':=by
 have hbp:=K_fx h
 have hble:=K_ox h
 have hlen:b.len=ys.length:=by simpa using hx.len
 have hcap:=hx.cap
 obtain⟨l1,l5,l3⟩:=s.drew.ld hk
 obtain⟨m1,m5,m3⟩:=s.drew.drew.ld hk
 have hn:IntKind.i64.wrap ((IntKind.i64.wrap (Int.tdiv ((ys.length:Nat):Int) ((blk h:Nat):Int)))*((blk h:Nat):Int))=((ys.length / blk h*blk h:Nat):Int):=by
  have hle:ys.length / blk h*blk h≤ys.length:=Nat.div_mul_le_self _ _
  have hle2:ys.length / blk h≤ys.length:=Nat.div_le_self _ _
  rw[K_12s,wn64 (by omega)]
  have:((ys.length / blk h:Nat):Int)*((blk h:Nat):Int)=((ys.length / blk h*blk h:Nat):Int):=by simp
  rw[this,wn64 (by omega)]
 have hle:ys.length / blk h*blk h≤ys.length:=Nat.div_mul_le_self _ _
 have hne:((blk h:Nat):Int)≠0:=by omega
 have hr:=(hx.rds.drew.drew).sub (lo:=0) (hi:=ys.length / blk h*blk h) (Nat.zero_le _) hle
 rw[List.drop_zero]at hr
 have hdl:(ys.take (ys.length / blk h*blk h)).length / blk h=ys.length / blk h:=by
  rw[List.length_take,Nat.min_eq_left hle];exact Nat.mul_div_cancel _ hbp
 obtain⟨w1,c1,s1,u1⟩:=s.drew.drew.blocks hK hC hg3 (hT.upd (S:=none_) (Upd.refl _ _).drew.drew fun _=>id) (b:=⟨sla b.a 0 b.cap 1,ys.length / blk h*blk h - 0,b.cap - 0⟩) (bs:=ys.take (ys.length / blk h*blk h)) (inD fun x hx=>hy x (List.mem_of_mem_take hx)) (by simp;omega)
  (fun p hp hne=>by rw[show (⟨sla b.a 0 b.cap 1,ys.length / blk h*blk h - 0,b.cap - 0⟩:Sl).a=b.a by simp]at hp;exact hbv p hp (fun e=>hne (by rw[e,List.take_nil]))) (if h0:ys=[] then .inr (by rw[h0];simp;omega) else .inl fun p hp=>by rw[show (⟨sla b.a 0 b.cap 1,ys.length / blk h*blk h - 0,b.cap - 0⟩:Sl).a=b.a by simp]at hp;exact hbg p hp h0) hr
 rw[hdl]at s1
 have hx1:Src w1.drew b (ints .u8 ys):=(K_ma (hx.upd0 ((Upd.refl none_ w).drew.drew)) u1 fun p hp hne e=>hbg p hp hne e).upd0 (Upd.refl none_ w1).drew
 have hsub:=K_yw hx1 (lo:=ys.length / blk h*blk h) (by rw[K_3];exact hle)
 have hdr:(ints .u8 ys).drop (ys.length / blk h*blk h)=ints .u8 (ys.drop (ys.length / blk h*blk h)):=by simp[ints,List.map_drop]
 rw[hdr]at hsub
 have hym:=Nat.mod_lt ys.length hbp
 have hya:=Nat.div_add_mod ys.length (blk h)
 have hyc:blk h*(ys.length / blk h)=ys.length / blk h*blk h:=Nat.mul_comm _ _
 obtain⟨w2,c2,s2,u2⟩:=s1.drew.cpy hsub (fun x hx=>hy x (List.mem_of_mem_drop hx)) (at_:=0) (dLen:=128) (dCap:=128) (by decide)
 have hmin:min (b.len - ys.length / blk h*blk h) 128=(ys.drop (ys.length / blk h*blk h)).length:=by rw[List.length_drop,hlen];omega
 have hfw:=f.whole (ys:=ys) hz
 have htk:(ys.drop (ys.length / blk h*blk h)).take (min (b.len - ys.length / blk h*blk h) 128)=ys.drop (ys.length / blk h*blk h):=by rw[hmin,List.take_length]
 have s2:StAt w2 e g o cs0 h cnt (compsH h C (ys.length / blk h) H (ys.take (ys.length / blk h*blk h))) (over half 0 (ys.drop (ys.length / blk h*blk h))):=by
  have s2':=s2
  rw[show (⟨sla b.a (ys.length / blk h*blk h) b.cap 1,b.len - ys.length / blk h*blk h,b.cap - ys.length / blk h*blk h⟩:Sl).len=b.len - ys.length / blk h*blk h from rfl,htk]at s2'
  exact s2'
 refine⟨w2,_,_,?_,s2,hfw,((Upd.refl (· =g) w).drew.drew.trans' u1 fun _ _ e=>e).drew.trans' u2 fun _ _ e=>e⟩
 have k1:(0:Int)≤((ys.length / blk h*blk h:Nat):Int)∧((ys.length / blk h*blk h:Nat):Int)≤((b.cap:Nat):Int):=by omega
 have k2:(0:Int)≤((ys.length / blk h*blk h:Nat):Int)∧((ys.length / blk h*blk h:Nat):Int)≤((ys.length:Nat):Int):=by omega
 rw[l1,J_bs,if_pos hne,J_bs]
 simp only[hlen,hn]
 rw[if_pos k1,m3,J_bs,J_tn]
 have hd:=K_su K h (some ⟨g,o+6,none⟩) ⟨sla b.a 0 b.cap 1,ys.length / blk h*blk h - 0,b.cap - 0⟩ w.drew.drew (β:=Unit×World)
 have hd':=fun k=>hd k
 rw[hd',c1,bnd_ok,if_pos k2]
 have c2':Fw.cpy prog 23 23 (.slice (sla (some ⟨g,o+14,none⟩) 0 128 1) (128 - 0) (128 - 0)) (.slice (sla b.a (ys.length / blk h*blk h) b.cap 1) (ys.length - ys.length / blk h*blk h) (b.cap - ys.length / blk h*blk h)) w1.drew=some (((min (ys.length - ys.length / blk h*blk h) 128:Nat):Int),w2):=by
  have:=c2
  simp only[Nat.add_zero,hlen]at this
  rw[sla_zero]
  exact this
 rw[c2',bnd_ok]
theorem K_z6{K:Nat} (hK:18446744073709551616≤K) {w:World} {e:TypeId} {g o:Nat} {cs0:List Value} {h:Int} (hk:known h=true) {H half C H0 xs:List Int} (s:StAt w e g o cs0 h xs.length H half) (f:Fed h C H0 xs H half)
  (hC:C.length=80) (hg3:g≠3) (hT:Rd w ⟨3,0,none⟩ (ints .u64 C)) {b:Sl} {ys:List Int} (hy:∀ x∈ys,InK .u8 x) (hlim:xs.length+ys.length≤140737488355328) (hx:Src w b (ints .u8 ys)) (hbg:∀ p,b.a=some p→ys≠[]→p.block≠g) (hbv:∀ p,b.a=some p→ys≠[]→p.block<w.heap.size):
  ∃ w' H' half',K_28 K (some ⟨g,o,none⟩) b w=some ((),w')∧StAt w' e g o cs0 h (xs ++ ys).length H' half'∧Fed h C H0 (xs ++ ys) H' half'∧Upd (· =g) w w':=by
 have hbp:=K_fx h
 have hble:=K_ox h
 have hlen:b.len=ys.length:=by simpa using hx.len
 have hcap:=hx.cap
 obtain⟨l1,l5,l3⟩:=s.drew.ld hk
 have eb:IntKind.u64.wrap ((blk h:Nat):Int)=((blk h:Nat):Int):=by rw[IntKind.wrap_u64];omega
 have hne:((blk h:Nat):Int)≠0:=by omega
 have el:IntKind.u64.wrap ((ys.length:Nat):Int)=((ys.length:Nat):Int):=by rw[IntKind.wrap_u64];omega
 have ec:IntKind.u64.wrap (((xs.length:Nat):Int)+((ys.length:Nat):Int))=(((xs ++ ys).length:Nat):Int):=by rw[IntKind.wrap_u64,List.length_append];omega
 have hat:=Nat.mod_lt xs.length hbp
 have ea:IntKind.i64.wrap (Int.tmod ((xs.length:Nat):Int) ((blk h:Nat):Int))=((xs.length % blk h:Nat):Int):=by rw[K_de,wn64 (by omega)]
 obtain⟨w1,c1,s1,u1⟩:=s.drew.count (xs ++ ys).length
 have u1':Upd (· =g) w w1:=u1.predrew
 have hx1:=K_ma (hx.upd0 (Upd.refl none_ w).drew) u1 fun p hp hne e=>hbg p hp hne e
 have hbv1:∀ p,b.a=some p→ys≠[]→p.block<w1.heap.size:=fun p hp hne=>by have:=hbv p hp hne;have:=u1'.size;omega
 have hT1:Rd w1 ⟨3,0,none⟩ (ints .u64 C):=hT.upd u1' fun _ e=>hg3 e.symm
 unfold K_28
 simp only[J_bs,add_lit,Nat.add_zero]
 rw[l5,J_bs,l1,J_bs,eb,if_pos hne,J_bs,hlen,el,ec,c1,J_bs,ea]
 by_cases hz:xs.length % blk h=0
 ·
  have hd:decide (((xs.length % blk h:Nat):Int) > 0)=false:=by rw[hz];rfl
  have hs0:K_q K (some ⟨g,o,none⟩) b ((xs.length % blk h:Nat):Int) false w1=some (.norm (b,()),w1):=by
   unfold K_q;rw[if_neg (by decide)]
  rw[hd,hs0,bnd_ok]
  obtain⟨w2,H2,half2,r1,r2,r3,r4⟩:=K_ur hK hk s1 f hz hC hg3 hT1 hy (by omega) hx1 hbg hbv1 none
  exact⟨w2,H2,half2,r1,r2,r3,u1'.trans' r4 fun _ _ e=>e⟩
 ·have hd:decide (((xs.length % blk h:Nat):Int) > 0)=true:=by simp;omega
  rw[hd]
  obtain⟨k1,k5,k3⟩:=s1.drew.ld hk
  have hx1d:=hx1.upd0 (Upd.refl none_ w1).drew
  obtain⟨w2,c2,s2,u2⟩:=s1.drew.cpy hx1d hy (at_:=xs.length % blk h) (dLen:=blk h - xs.length % blk h) (dCap:=128 - xs.length % blk h) (by omega)
  have a1:(0:Int)≤((blk h:Nat):Int)∧((blk h:Nat):Int)≤((128:Nat):Int):=by omega
  have a2:(0:Int)≤((xs.length % blk h:Nat):Int)∧((xs.length % blk h:Nat):Int)≤((blk h:Nat):Int):=by omega
  have a3:(0:Int)≤((min b.len (blk h - xs.length % blk h):Nat):Int)∧((min b.len (blk h - xs.length % blk h):Nat):Int)≤((b.len:Nat):Int):=by omega
  have hsl:sla (some ⟨g,o+14,none⟩) (xs.length % blk h) 128 1=some ⟨g,o+14+xs.length % blk h,none⟩:=by rw[K_x7 (by omega),add_lit]
  obtain⟨m1,m5,m3⟩:=s2.ld hk
  have ew:IntKind.i64.wrap (((xs.length % blk h:Nat):Int)+((min b.len (blk h - xs.length % blk h):Nat):Int))=((xs.length % blk h+min b.len (blk h - xs.length % blk h):Nat):Int):=by rw[w64 (by omega) (by omega)];rfl
  by_cases hlt:xs.length % blk h+ys.length<blk h
  ·
   have hmin:min b.len (blk h - xs.length % blk h)=ys.length:=by rw[hlen];omega
   rw[hmin,List.take_length]at s2
   have hlt':decide (((xs.length % blk h+min b.len (blk h - xs.length % blk h):Nat):Int)<((blk h:Nat):Int))=true:=by rw[hmin];simp;omega
   have hs0:K_q K (some ⟨g,o,none⟩) b ((xs.length % blk h:Nat):Int) true w1=some (.ret (),w2):=by
    unfold K_q
    rw[if_pos rfl]
    simp only[J_bs,add_lit,Nat.add_zero]
    rw[k1,J_bs,if_pos a1]
    simp only[J_tn]
    rw[if_pos a2,hsl,c2,bnd_ok,if_pos a3,m1,J_bs,ew,hlt',if_pos rfl]
   rw[hs0,bnd_ok]
   exact⟨w2,_,_,rfl,s2,f.less hlt,(u1'.drew.trans' u2 fun _ _ e=>e)⟩
  ·
   have hmin:min b.len (blk h - xs.length % blk h)=blk h - xs.length % blk h:=by rw[hlen];omega
   have hlt':decide (((xs.length % blk h+min b.len (blk h - xs.length % blk h):Nat):Int)<((blk h:Nat):Int))=false:=by rw[hmin];simp;omega
   rw[hmin]at s2 c2 a3 ew
   have hyl:(ys.take (blk h - xs.length % blk h)).length=blk h - xs.length % blk h:=by simp;omega
   have hfill:=f.fill (ys:=ys.take (blk h - xs.length % blk h)) (by rw[hyl];omega)
   have hT2:Rd w2.drew ⟨3,0,none⟩ (ints .u64 C):=(hT1.upd ((Upd.refl (· =g) w1).drew.trans' u2 fun _ _ e=>e) fun _ e=>hg3 e.symm).upd (S:=none_) (Upd.refl _ _).drew fun _=>id
   have hhalf:=s2.drew.half_rd (n:=blk h) hble
   have hol:=s2.len
   obtain⟨n1,n5,n3⟩:=s2.drew.ld hk
   obtain⟨w3,c3,s3,u3⟩:=s2.drew.blocks hK hC hg3 hT2 (b:=⟨some ⟨g,o+14,none⟩,blk h,128⟩) (bs:=(over half (xs.length % blk h) (ys.take (blk h - xs.length % blk h))).take (blk h)) (inD fun x hx=>s2.inn x (List.mem_of_mem_take hx)) (by simp;omega)
    (fun p hp _=>by have e1:p=⟨g,o+14,none⟩:=by simpa using hp.symm
                    rw[e1];exact s2.drew.bk.lt) (.inr (by rw[List.length_take];omega)) hhalf
   have hone:((over half (xs.length % blk h) (ys.take (blk h - xs.length % blk h))).take (blk h)).length / blk h=1:=by
    rw[List.length_take,hol,Nat.min_eq_left hble];exact Nat.div_self hbp
   rw[hone]at s3
   have hs0:K_q K (some ⟨g,o,none⟩) b ((xs.length % blk h:Nat):Int) true w1 =
     some (.norm (⟨sla b.a (blk h - xs.length % blk h) b.cap 1,b.len - (blk h - xs.length % blk h),b.cap - (blk h - xs.length % blk h)⟩,()),w3):=by
    unfold K_q
    rw[if_pos rfl]
    simp only[J_bs,add_lit,Nat.add_zero]
    rw[k1,J_bs,if_pos a1]
    simp only[J_tn]
    rw[if_pos a2,hsl,c2,bnd_ok,if_pos a3,m1,J_bs,ew]
    rw[hmin]at hlt'
    rw[hlt',if_neg (by decide),n3,J_bs,n1,J_bs,if_pos a1]
    have hd:=K_su K h (some ⟨g,o+6,none⟩) ⟨some ⟨g,o+14,none⟩,blk h,128⟩ w2.drew (β:=Out (Sl×Unit) Unit×World)
    simp only[sla_zero,J_tn,Nat.sub_zero]
    rw[hd,c3,bnd_ok]
   have hmod:(xs ++ ys.take (blk h - xs.length % blk h)).length % blk h=0:=by
    rw[List.length_append,hyl]
    have h1:=Nat.div_add_mod xs.length (blk h)
    have h2:xs.length+(blk h - xs.length % blk h)=(xs.length / blk h+1)*blk h:=by rw[Nat.succ_mul,Nat.mul_comm];omega
    rw[h2];exact Nat.mul_mod_left _ _
   have u13:Upd (· =g) w1 w3:=((Upd.refl (· =g) w1).drew.trans' u2 fun _ _ e=>e).drew.trans' u3 fun _ _ e=>e
   have hx3:=K_yw (K_ma hx1 u13 fun p hp hne e=>hbg p hp hne e) (lo:=blk h - xs.length % blk h) (by rw[K_3];omega)
   have hdr:(ints .u8 ys).drop (blk h - xs.length % blk h)=ints .u8 (ys.drop (blk h - xs.length % blk h)):=by simp[ints,List.map_drop]
   rw[hdr]at hx3
   obtain⟨w4,H4,half4,r1,r2,r3,r4⟩:=K_ur hK hk s3 hfill hmod hC hg3 (hT1.upd u13 fun _ e=>hg3 e.symm) (fun x hx=>hy x (List.mem_of_mem_drop hx)) (by simp;omega) hx3
    (fun q hq hne=>by obtain⟨p,hp,e1⟩:=K_yu hq;rw[e1];exact hbg p hp (fun e=>hne (by rw[e];simp))) (fun q hq hne=>by obtain⟨p,hp,e1⟩:=K_yu hq;rw[e1];have:=hbv1 p hp (fun e=>hne (by rw[e];simp));have:=u13.size;omega) none
   rw[List.append_assoc,List.take_append_drop]at r3
   rw[hs0,bnd_ok]
   exact⟨w4,H4,half4,r1,r2,r3,(u1'.trans' u13 fun _ _ e=>e).trans' r4 fun _ _ e=>e⟩
end Go.Sh

namespace Go.Sh
open Go.Fw Go.Sha Go.RowKit Go.Proofs.Tryd
def bigB(x:Int):Nat→List Int
 | 0=>[]
 | n+1=>IntKind.u8.wrap (Int.fdiv x (2 ^ (8*n))) :: bigB x n
theorem K_go(x:Int):∀ n,(bigB x n).length=n
 | 0=>rfl
 | n+1=>by simp[bigB,K_go x n]
theorem push1{w:World}{s:Sl}{xs:List Int}(x:Int){B:Nat}(ho:OwnS 5 w s (ints .u8 xs))(hs:s.len+1≤140737488355328)(hB:B≤w.heap.size)(hf:Fresh B s):
  ∃ w1 s2 w2,bldS prog 23 1 #[(0,(.int .u8 x))] w=some (⟨some ⟨w.heap.size,0,none⟩,1,1⟩,w1)∧apd prog 23 23 (.slice s.a s.len s.cap) (.slice (some ⟨w.heap.size,0,none⟩) 1 1) w1=some (s2,w2)∧
   OwnS 5 w2 s2 (ints .u8 (xs ++ [x]))∧s2.len=s.len+1∧Below B w w2∧Fresh B s2:=by
 obtain⟨w1,h1,o1,u1,z1⟩:=K_57 sliceB (.int .u8 x) rfl w
 obtain⟨s2,w2,h2,l2,o2,u2,b2⟩:=K_34 sliceB (ho.upd0 u1) (o1.src (by simp[Value.oneCell'])) (by show (s.len+1)*1≤_;omega)
 have bl1:Below B w w1:=u1.below hB fun _ _=>id
 have bl2:Below B w w2:=K_np bl1 u2 (by omega) fun k hk e=>by have:=hf k e;omega
 refine⟨w1,s2,w2,h1,h2,by simpa using o2,l2,bl2,?_⟩
 intro k hk
 rcases b2 with e | e
 ·exact hf k (e ▸ hk)
 ·rw[e]at hk;have:=Option.some.inj hk;omega
theorem K_14a(K B:Nat)(x:Int):∀ (m n:Nat) (w:World) (s:Sl) (xs:List Int),m≤8→m<n→OwnS 5 w s (ints .u8 xs)→s.len+m≤140737488355328→B≤w.heap.size→Fresh B s→
  ∃ s' w',K_56 K n s x ((m:Int) - 1) w=some ((s',()),w')∧OwnS 5 w' s' (ints .u8 (xs ++ bigB x m))∧Below B w w'∧Fresh B s':=by
 intro m
 induction m with
 | zero=>
  intro n w s xs hm hn ho hs hB hf
  obtain⟨n,rfl⟩:∃ k,n=k+1:=⟨n - 1,by omega⟩
  refine⟨s,w,?_,by simpa[bigB] using ho,Below.refl B w,hf⟩
  show K_6w K (K_56 K n) s x (((0:Nat):Int) - 1) w=_
  simp[K_6w]
 | succ m ih=>
  intro n w s xs hm hn ho hs hB hf
  obtain⟨n,rfl⟩:∃ k,n=k+1:=⟨n - 1,by omega⟩
  obtain⟨w1,s2,w2,h1,h2,o2,l2,bl2,hf2⟩:=push1 (IntKind.u8.wrap (Int.fdiv x (2 ^ (8*m)))) ho (by omega) hB hf
  obtain⟨s3,w3,h3,o3,bl3,hf3⟩:=ih n w2 s2 _ (by omega) (by omega) o2 (by omega) (by have:=bl2.size;omega) hf2
  refine⟨s3,w3,?_,by simpa[bigB] using o3,bl2.trans bl3,hf3⟩
  show K_6w K (K_56 K n) s x (((m+1:Nat):Int) - 1) w=_
  have e0:(((m+1:Nat):Int) - 1)=(m:Int):=by omega
  have hd:decide ((m:Int)≥0)=true:=by simp
  have e8:IntKind.i64.wrap (8*(m:Int))=((8*m:Nat):Int):=by rw[w64 (by omega) (by omega)];omega
  have e1:IntKind.i64.wrap ((m:Int) - 1)=(m:Int) - 1:=w64 (by omega) (by omega)
  have hmin:min (8*m) IntKind.u64.bits=8*m:=Nat.min_eq_left (by simp only[IntKind.bits];omega)
  unfold K_6w
  rw[e0,hd,if_pos rfl,e8,if_pos (Int.natCast_nonneg _),J_tn,hmin,h1,bnd_ok]
  show bnd (apd prog 23 23 (.slice s.a s.len s.cap) (.slice (some ⟨w.heap.size,0,none⟩) 1 1) w1) _=_
  rw[h2,bnd_ok,e1,h3]
theorem K_16p{K:Nat}(hK:18446744073709551616≤K){B:Nat}(x:Int){m:Nat}(hm:m≤8){w:World}{s:Sl}{xs:List Int}(ho:OwnS 5 w s (ints .u8 xs))(hs:s.len+m≤140737488355328)(hB:B≤w.heap.size)(hf:Fresh B s):
  ∃ s' w',K_9j K s x (m:Int) w=some ((s',()),w')∧OwnS 5 w' s' (ints .u8 (xs ++ bigB x m))∧Below B w w'∧Fresh B s':=by
 obtain⟨s',w',h1,h2,h3,h4⟩:=K_14a K B x m K w s xs hm (by omega) ho hs hB hf
 refine⟨s',w',?_,h2,h3,h4⟩
 have e1:IntKind.i64.wrap ((m:Int) - 1)=(m:Int) - 1:=w64 (by omega) (by omega)
 unfold K_9j
 rw[e1,h1,bnd_ok]
def padZ(b m len:Nat):Nat:=(b - (len+1+m) % b) % b
theorem K_uu{b m len j:Nat}(hb:b=64∨b=128)(hj:j≤padZ b m len):(len % b+(1+j)+m) % b=0↔j=padZ b m len:=by
 unfold padZ at*
 rcases hb with rfl | rfl <;> omega
theorem K_z5{b m len:Nat}(hb:b=64∨b=128):padZ b m len<b:=by
 unfold padZ
 rcases hb with rfl | rfl <;> omega
def wordB(h:Int):Nat:=if narrowB h=true then 4 else 8
theorem K_ej(h:Int):(wordB h=4∧blk h=64)∨(wordB h=8∧blk h=128):=by unfold wordB blk;split <;> simp
theorem K_15c{h:Int}(hk:known h=true)(cnt:Nat)(H half:List Int):(stCells h cnt H half)[2]? =some (.int .i64 ((wordB h:Nat):Int))∧(stCells h cnt H half)[0]? =some (.int .i64 (h / 8)):=by
 rcases K_dp hk with e | e | e | e <;> subst e <;> exact⟨rfl,rfl⟩
theorem StAt.ld2{w:World}{e:TypeId}{g o:Nat}{cs0:List Value}{h:Int}{cnt:Nat}{H half:List Int}(s:StAt w e g o cs0 h cnt H half)(hk:known h=true):
  ldI .i64 ⟨g,o+2,none⟩ w=some ((wordB h:Nat):Int)∧ldI .i64 ⟨g,o+0,none⟩ w=some (h / 8):=by
 obtain⟨h1,h2⟩:=K_15c hk cnt H half
 exact⟨s.bk.ldI ((K_h7 s.words s.len s.room (by decide)).trans h1),s.bk.ldI ((K_h7 s.words s.len s.room (by decide)).trans h2)⟩
theorem K_16s(K:Nat){e:TypeId}{g:Nat}{cs0:List Value}{h:Int}(hk:known h=true){cnt:Nat}(hcnt:cnt≤140737488355328){H half:List Int}{bits3:Int}{pad4:Addr}:
  ∀ (d j n:Nat) (w:World),j+d=padZ (blk h) (2*wordB h) cnt→d<n→StAt w e g 0 cs0 h cnt H half→
   ∃ w',K_17 K n ⟨g,0,none⟩ bits3 pad4 ((1+j:Nat):Int) w=some ((((1+padZ (blk h) (2*wordB h) cnt:Nat):Int),()),w')∧Upd none_ w w':=by
 have hbp:=K_fx h
 have hw:=K_ej h
 have hbk:blk h=64∨blk h=128:=K_ui hk
 have hzl:=K_z5 (m:=2*wordB h) (len:=cnt) hbk
 intro d
 induction d with
 | zero=>
  intro j n w hj hn s
  obtain⟨n,rfl⟩:∃ m,n=m+1:=⟨n - 1,by omega⟩
  have hj:j=padZ (blk h) (2*wordB h) cnt:=by omega
  obtain⟨l1,l5,l3⟩:=s.drew.ld hk
  obtain⟨l2,l0⟩:=s.drew.ld2 hk
  simp only[Nat.zero_add]at l1 l2 l5
  have eb:IntKind.u64.wrap ((blk h:Nat):Int)=((blk h:Nat):Int):=by rw[IntKind.wrap_u64];omega
  have hne:((blk h:Nat):Int)≠0:=by omega
  have hat:=Nat.mod_lt cnt hbp
  have ea:IntKind.i64.wrap (Int.tmod (cnt:Int) ((blk h:Nat):Int))=((cnt % blk h:Nat):Int):=by rw[K_de,wn64 (by omega)]
  have e2:IntKind.i64.wrap (2*((wordB h:Nat):Int))=((2*wordB h:Nat):Int):=by rw[w64 (by omega) (by omega)];omega
  have e3:IntKind.i64.wrap (((cnt % blk h:Nat):Int)+((1+j:Nat):Int))=((cnt % blk h+(1+j):Nat):Int):=by rw[w64 (by omega) (by omega)];omega
  have e4:IntKind.i64.wrap (((cnt % blk h+(1+j):Nat):Int)+((2*wordB h:Nat):Int))=((cnt % blk h+(1+j)+2*wordB h:Nat):Int):=by rw[w64 (by omega) (by omega)];omega
  have hz:=(K_uu (m:=2*wordB h) (len:=cnt) (j:=j) hbk (by omega)).2 hj
  refine⟨w.drew,?_,(Upd.refl none_ w).drew⟩
  show K_3a K (K_17 K n) ⟨g,0,none⟩ bits3 pad4 ((1+j:Nat):Int) w=_
  unfold K_3a
  simp only[add_lit,Nat.zero_add,Nat.add_zero]
  rw[l5,J_bs,l1,J_bs,eb,if_pos hne,l2,J_bs,J_bs,if_pos hne,ea,e2,e3,e4,K_de,hz]
  rw[if_neg (by simp),hj]
 | succ d ih=>
  intro j n w hj hn s
  obtain⟨n,rfl⟩:∃ m,n=m+1:=⟨n - 1,by omega⟩
  obtain⟨l1,l5,l3⟩:=s.drew.ld hk
  obtain⟨l2,l0⟩:=s.drew.ld2 hk
  simp only[Nat.zero_add]at l1 l2 l5
  have eb:IntKind.u64.wrap ((blk h:Nat):Int)=((blk h:Nat):Int):=by rw[IntKind.wrap_u64];omega
  have hne:((blk h:Nat):Int)≠0:=by omega
  have hat:=Nat.mod_lt cnt hbp
  have ea:IntKind.i64.wrap (Int.tmod (cnt:Int) ((blk h:Nat):Int))=((cnt % blk h:Nat):Int):=by rw[K_de,wn64 (by omega)]
  have e2:IntKind.i64.wrap (2*((wordB h:Nat):Int))=((2*wordB h:Nat):Int):=by rw[w64 (by omega) (by omega)];omega
  have e3:IntKind.i64.wrap (((cnt % blk h:Nat):Int)+((1+j:Nat):Int))=((cnt % blk h+(1+j):Nat):Int):=by rw[w64 (by omega) (by omega)];omega
  have e4:IntKind.i64.wrap (((cnt % blk h+(1+j):Nat):Int)+((2*wordB h:Nat):Int))=((cnt % blk h+(1+j)+2*wordB h:Nat):Int):=by rw[w64 (by omega) (by omega)];omega
  have hz:¬(cnt % blk h+(1+j)+2*wordB h) % blk h=0:=fun e0=>by
   have:=(K_uu (m:=2*wordB h) (len:=cnt) (j:=j) hbk (by omega)).1 e0
   omega
  have e1:IntKind.i64.wrap (((1+j:Nat):Int)+1)=((1+(j+1):Nat):Int):=by rw[w64 (by omega) (by omega)];omega
  obtain⟨w1,h1,u1⟩:=ih (j+1) n w.drew (by omega) (by omega) s.drew
  refine⟨w1,?_,u1.predrew⟩
  show K_3a K (K_17 K n) ⟨g,0,none⟩ bits3 pad4 ((1+j:Nat):Int) w=_
  have hnz:((((cnt % blk h+(1+j)+2*wordB h) % blk h:Nat):Int) != 0)=true:=by rw[bne_iff_ne];exact fun e0=>hz (Int.natCast_eq_zero.1 e0)
  unfold K_3a
  simp only[add_lit,Nat.zero_add,Nat.add_zero]
  rw[l5,J_bs,l1,J_bs,eb,if_pos hne,l2,J_bs,J_bs,if_pos hne,ea,e2,e3,e4,K_de,hnz,if_pos rfl,e1,h1]
theorem K_12h{cs vs:List Value}{o:Nat}(h:o+1+vs.length≤cs.length)(v:Value):(seg cs (o+1) vs).set o v=seg cs o (v :: vs):=by
 apply List.ext_getElem?
 intro i
 rw[List.getElem?_set,K_r h,K_10 h,K_10 (by simp;omega)]
 simp only[List.length_cons]
 by_cases h1:o=i
 ·subst h1
  rw[if_pos rfl,if_pos (by omega),if_neg (by omega),if_pos (by omega)]
  simp
 ·rw[if_neg h1]
  by_cases h2:i<o
  ·rw[if_pos (by omega),if_pos h2]
  ·rw[if_neg (by omega),if_neg h2]
   by_cases h3:i<o+1+vs.length
   ·rw[if_pos h3,if_pos (by omega),show i - o=(i - (o+1))+1 by omega];rfl
   ·rw[if_neg h3,if_neg (by omega)]
theorem K_16m(K:Nat){s1:Addr}{bits:Int}{gp n0:Nat}{ep:TypeId}{ps:List Value}(hps:ps.length=256)(hn8:8≤n0)(hn0:n0≤256):
  ∀ (d i n:Nat) (w:World),i+d=8→d<n→Bk ep w gp (seg ps (n0 - i) (ints .u8 (bigB bits i)))→
   ∃ w',K_1a K n s1 bits ⟨gp,0,none⟩ (n0:Int) (i:Int) w=some ((),w')∧Bk ep w' gp (seg ps (n0 - 8) (ints .u8 (bigB bits 8)))∧Upd (· =gp) w w':=by
 intro d
 induction d with
 | zero=>
  intro i n w hi hn hb
  obtain⟨n,rfl⟩:∃ m,n=m+1:=⟨n - 1,by omega⟩
  have:i=8:=by omega
  subst this
  refine⟨w,?_,hb,Upd.refl _ _⟩
  show K_33 K (K_1a K n) s1 bits ⟨gp,0,none⟩ (n0:Int) ((8:Nat):Int) w=_
  simp[K_33]
 | succ d ih=>
  intro i n w hi hn hb
  obtain⟨n,rfl⟩:∃ m,n=m+1:=⟨n - 1,by omega⟩
  have hd:decide ((i:Int)<8)=true:=by simp;omega
  have e1:IntKind.i64.wrap ((i:Int)+1)=((i+1:Nat):Int):=by rw[w64 (by omega) (by omega)];rfl
  have e8:IntKind.i64.wrap (8*(i:Int))=((8*i:Nat):Int):=by rw[w64 (by omega) (by omega)];omega
  have en:IntKind.i64.wrap ((n0:Int) - 1)=((n0 - 1:Nat):Int):=by rw[w64 (by omega) (by omega)];omega
  have eni:IntKind.i64.wrap (((n0 - 1:Nat):Int) - (i:Int))=((n0 - (i+1):Nat):Int):=by rw[w64 (by omega) (by omega)];omega
  have hmin:min (8*i) IntKind.u64.bits=8*i:=Nat.min_eq_left (by simp only[IntKind.bits];omega)
  have c0:(0:Int)≤((n0 - (i+1):Nat):Int)∧((n0 - (i+1):Nat):Int)<((256:Nat):Int):=by omega
  have hbl:=K_go bits i
  obtain⟨w1,s1',s2,s3⟩:=hb.stC (i:=n0 - (i+1)) (by rw[K_r (by rw[K_3,hbl];omega)];omega) (.int .u8 (IntKind.u8.wrap (Int.fdiv bits (2 ^ (8*i)))))
  have hst:(seg ps (n0 - i) (ints .u8 (bigB bits i))).set (n0 - (i+1)) (.int .u8 (IntKind.u8.wrap (Int.fdiv bits (2 ^ (8*i)))))=seg ps (n0 - (i+1)) (ints .u8 (bigB bits (i+1))):=by
   have:=K_12h (cs:=ps) (vs:=ints .u8 (bigB bits i)) (o:=n0 - (i+1)) (by rw[K_3,hbl];omega) (.int .u8 (IntKind.u8.wrap (Int.fdiv bits (2 ^ (8*i)))))
   rw[show n0 - (i+1)+1=n0 - i by omega]at this
   rw[this];rfl
  rw[hst]at s2
  obtain⟨w2,h1,h2,h3⟩:=ih (i+1) n w1 (by omega) (by omega) s2
  refine⟨w2,?_,h2,s3.trans' h3 fun _ _ e=>e⟩
  show K_33 K (K_1a K n) s1 bits ⟨gp,0,none⟩ (n0:Int) (i:Int) w=_
  unfold K_33
  rw[hd,if_pos rfl,e8,if_pos (Int.natCast_nonneg _),en,eni,if_pos c0]
  simp only[J_tn,add_lit,Nat.mul_one,Nat.zero_add]
  rw[hmin,s1',J_bs,e1,h1]
def outW(H:List Int)(m:Nat):Nat→List Int
 | 0=>[]
 | i+1=>outW H m i ++ bigB (H.getD i 0) m
theorem K_da(H:List Int)(m:Nat):∀ i,(outW H m i).length=i*m
 | 0=>by simp[outW]
 | i+1=>by simp[outW,K_da H m i,K_go,Nat.succ_mul]
theorem K_16v{K:Nat}(hK:18446744073709551616≤K)(B:Nat){e:TypeId}{g:Nat}{cs0:List Value}{h:Int}(hk:known h=true){cnt:Nat}{H half X:List Int}(hX:X.length=8)(hgB:g<B):
  ∀ (d i n:Nat) (w:World) (s:Sl),i+d=8→d<n→StAt w e g 0 cs0 h cnt H half→OwnS 5 w s (ints .u8 (outW X (wordB h) i))→B≤w.heap.size→Fresh B s→
   ∃ s' w',K_19 K n ⟨g,0,none⟩ s (ints .u64 X).toArray (i:Int) w=some ((s',()),w')∧OwnS 5 w' s' (ints .u8 (outW X (wordB h) 8))∧Below B w w'∧Fresh B s':=by
 have hw:=K_ej h
 intro d
 induction d with
 | zero=>
  intro i n w s hi hn st ho hB hf
  obtain⟨n,rfl⟩:∃ m,n=m+1:=⟨n - 1,by omega⟩
  have:i=8:=by omega
  subst this
  refine⟨s,w,?_,ho,Below.refl B w,hf⟩
  show K_3e K (K_19 K n) ⟨g,0,none⟩ s (ints .u64 X).toArray ((8:Nat):Int) w=_
  simp[K_3e]
 | succ d ih=>
  intro i n w s hi hn st ho hB hf
  obtain⟨n,rfl⟩:∃ m,n=m+1:=⟨n - 1,by omega⟩
  have hd:decide ((i:Int)<8)=true:=by simp;omega
  have e1:IntKind.i64.wrap ((i:Int)+1)=((i+1:Nat):Int):=by rw[w64 (by omega) (by omega)];rfl
  have c0:(0:Int)≤(i:Int)∧(i:Int)<((8:Nat):Int):=by omega
  have hxi:i<X.length:=by omega
  have hg:(ints .u64 X).toArray[i]? =some (.int .u64 (X.getD i 0)):=by
   rw[List.getElem?_toArray];simp[ints,J_gd,hxi]
  obtain⟨l2,l0⟩:=st.ld2 hk
  simp only[Nat.zero_add]at l2
  have hsl:s.len=i*wordB h:=by rw[ho.len,K_3,K_da]
  have him:i*wordB h≤7*8:=Nat.mul_le_mul (by omega) (by omega)
  obtain⟨s2,w2,h2,o2,bl2,f2⟩:=K_16p hK (X.getD i 0) (m:=wordB h) (by omega) ho (by omega) hB hf
  obtain⟨s3,w3,h3,o3,bl3,f3⟩:=ih (i+1) n w2 s2 (by omega) (by omega) (st.upd (K_c8 bl2) (by omega)) o2 (by have:=bl2.size;omega) f2
  refine⟨s3,w3,?_,o3,bl2.trans bl3,f3⟩
  show K_3e K (K_19 K n) ⟨g,0,none⟩ s (ints .u64 X).toArray (i:Int) w=_
  unfold K_3e
  rw[hd,if_pos rfl,if_pos c0]
  simp only[J_tn,Nat.mul_one]
  rw[hg,J_bs]
  simp only[asI,if_true,J_bs,add_lit,Nat.zero_add,Nat.add_zero]
  rw[l2,J_bs,h2,bnd_ok,e1,h3]
def pads(h:Int)(len:Nat):List Int:=[128] ++ List.replicate (padZ (blk h) (2*wordB h) len+(2*wordB h - 8)) 0 ++ bigB (IntKind.u64.wrap ((len:Int)*8)) 8
theorem K_131(h:Int)(len:Nat):(pads h len).length=1+padZ (blk h) (2*wordB h) len+2*wordB h:=by
 have:=K_ej h
 simp[pads,K_go];omega
theorem K_tg(x:Int):∀ n,∀ y∈bigB x n,InK .u8 y
 | 0,y,hy=>by simp[bigB]at hy
 | n+1,y,hy=>by
  simp only[bigB,List.mem_cons]at hy
  rcases hy with rfl | hy
  ·rw[IntKind.wrap_u8];exact⟨by omega,by simp only[IntKind.bits];omega⟩
  ·exact K_tg x n y hy
theorem K_14s(h:Int)(len:Nat):∀ y∈pads h len,InK .u8 y:=by
 intro y hy
 unfold pads at hy
 simp only[List.mem_append,List.mem_cons,List.not_mem_nil,or_false,List.mem_replicate]at hy
 rcases hy with (rfl | ⟨_,rfl⟩) | hy
 ·exact⟨by decide,by decide⟩
 ·exact⟨by decide,by decide⟩
 ·exact K_tg _ 8 y hy
def digestOf(h:Int)(C H0 xs:List Int):List Int:=(outW (compsH h C ((xs ++ pads h xs.length).length / blk h) H0 (xs ++ pads h xs.length)) (wordB h) 8).take (h / 8).toNat
structure Ans(B:Nat) (w:World) (s:Sl) (zs:List Int):Prop where
 ex:∃ g cs,s.a=some ⟨g,0,none⟩∧B≤g∧Bk 5 w g cs∧cs.take zs.length=ints .u8 zs∧zs.length≤cs.length
 len:s.len=zs.length
 cap:s.cap=zs.length
end Go.Sh

namespace Go.Sh
open Go.Fw Go.Sha Go.RowKit Go.Proofs.Tryd
theorem K_16x(w:World){c:Nat}(hc:c≤281474976710656):
  ∃ w',mkS prog 23 (.int .i64 0) (.int .i64 (c:Int)) w=some (⟨some ⟨w.heap.size,0,none⟩,0,c⟩,w')∧OwnS 5 w' ⟨some ⟨w.heap.size,0,none⟩,0,c⟩ []∧Upd none_ w w':=by
 obtain⟨i,hi,hsz,hz,hby⟩:=sliceB.info
 obtain⟨w',hr,ho,hg⟩:=run_make_own (P:=prog) w 0 23 5 i (.int .u8 0) 1 sliceB.ht hi hz hsz .i64 .i64 c (by rw[hby];omega) (by simp only[maxLen];omega) (Nat.zero_le _)
 obtain⟨s,h1,h2,h3⟩:=OwnS.of_row ho
 have hs:s=⟨some ⟨w.heap.size,0,none⟩,0,c⟩:=by
  cases s
  simp only[Value.slice.injEq]at h1
  simp[←h1.1,←h1.2.1,←h1.2.2]
 refine⟨w',?_,hs ▸ h3,(Upd.of_grown hg).mono fun k _ e=>by cases e⟩
 unfold mkS
 rw[hr]
theorem K_wy{cs:List Value}:seg cs 0 cs=cs:=by simp[seg]
theorem K_zn(h:Int)(len:Nat)(hz:padZ (blk h) (2*wordB h) len<128):
  (seg ((ints .u8 (List.replicate 256 0)).set 0 (.int .u8 128)) (1+padZ (blk h) (2*wordB h) len+2*wordB h - 8) (ints .u8 (bigB (IntKind.u64.wrap ((len:Int)*8)) 8))).take (1+padZ (blk h) (2*wordB h) len+2*wordB h)=ints .u8 (pads h len):=by
 have hw:=K_ej h
 obtain⟨k,hk⟩:∃ k,padZ (blk h) (2*wordB h) len+(2*wordB h - 8)=k:=⟨_,rfl⟩
 have e0:(ints .u8 (List.replicate 256 0)).set 0 (.int .u8 128)=ints .u8 (128 :: List.replicate 255 0):=by
  rw[K_wz,show (256:Nat)=255+1 from rfl,List.replicate_succ,List.set_cons_zero]
 have e1:1+padZ (blk h) (2*wordB h) len+2*wordB h - 8=k+1:=by omega
 have e2:1+padZ (blk h) (2*wordB h) len+2*wordB h=k+1+(ints .u8 (bigB (IntKind.u64.wrap ((len:Int)*8)) 8)).length:=by rw[K_3,K_go];omega
 rw[e0,e1,e2]
 unfold seg pads
 rw[hk,K_9f,List.take_succ_cons,List.take_replicate,Nat.min_eq_left (by omega),←K_3i,List.take_append_of_le_length (by rw[K_3,K_3,List.length_append,List.length_cons,List.length_replicate];omega),List.take_of_length_le (by rw[K_3,K_3,List.length_append,List.length_cons,List.length_replicate];omega)]
 rfl
theorem K_175{K:Nat}(hK:18446744073709551616≤K){h:Int}(hk:known h=true){H half C H0 xs:List Int}(f:Fed h C H0 xs H half)(hH:H.length=8)(hhi:∀ x∈half,InK .u8 x)(hC:C.length=80){w:World}(hT:Rd w ⟨3,0,none⟩ (ints .u64 C))(hlim:xs.length≤1099511627776):
  ∃ s w',K_49 K (stCells h xs.length H half).toArray w=some ((s,()),w')∧Ans w.heap.size w' s (digestOf h C H0 xs)∧Upd none_ w w':=by
 have hGC:3<w.heap.size:=hT.lt (fun e=>by have:=congrArg List.length e;simp[hC]at this)
 have hwb:=K_ej h
 have hbk:=K_ui hk
 have hzl:=K_z5 (m:=2*wordB h) (len:=xs.length) hbk
 obtain⟨w1,n1,b1,u1,z1⟩:=K_g (stCells h xs.length H half).toArray 180 w
 have b1:Bk 180 w1 w.heap.size (stCells h xs.length H half):=b1
 have hsl:=K_26 h xs.length hH f.len
 have st1:StAt w1 180 w.heap.size 0 (stCells h xs.length H half) h xs.length H half:=⟨by rw[K_wy];exact b1,by rw[hsl];decide,hH,f.len,hhi⟩
 obtain⟨l1,l5,l3⟩:=st1.ld hk
 obtain⟨w2,n2,b2,u2,z2⟩:=K_g z188 188 w1
 have b2:Bk 188 w2 w1.heap.size (ints .u8 (List.replicate 256 0)):=by
  have e:z188.toList=ints .u8 (List.replicate 256 0):=by unfold z188 ints;rw[Array.toList_replicate,List.map_replicate]
  rw[←e];exact b2
 obtain⟨w3,s3,b3,u3⟩:=b2.stC (i:=0) (by rw[K_3,List.length_replicate];decide) (.int .u8 128)
 have st3:=(st1.upd u2 id).upd u3 (by omega)
 obtain⟨w4,h4,u4⟩:=K_16s K hk (by omega) (bits3:=IntKind.u64.wrap (((xs.length:Nat):Int)*8)) (pad4:=⟨w1.heap.size,0,none⟩) (padZ (blk h) (2*wordB h) xs.length) 0 K w3 (by omega) (by omega) st3
 have h4:K_17 K K ⟨w.heap.size,0,none⟩ (IntKind.u64.wrap (((xs.length:Nat):Int)*8)) ⟨w1.heap.size,0,none⟩ 1 w3=_:=h4
 have st4:=st3.upd u4 id
 have b4:=b3.upd0 u4
 obtain⟨m2,m0⟩:=st4.ld2 hk
 have ew:IntKind.i64.wrap (2*((wordB h:Nat):Int))=((2*wordB h:Nat):Int):=by rw[w64 (by omega) (by omega)];omega
 have en:IntKind.i64.wrap (((1+padZ (blk h) (2*wordB h) xs.length:Nat):Int)+((2*wordB h:Nat):Int))=((1+padZ (blk h) (2*wordB h) xs.length+2*wordB h:Nat):Int):=by rw[w64 (by omega) (by omega)];omega
 have hps:((ints .u8 (List.replicate 256 0)).set 0 (.int .u8 128)).length=256:=by rw[List.length_set,K_3,List.length_replicate]
 obtain⟨w5,h5,b5,u5⟩:=K_16m K (s1:=⟨w.heap.size,0,none⟩) (bits:=IntKind.u64.wrap (((xs.length:Nat):Int)*8)) (gp:=w1.heap.size) (n0:=1+padZ (blk h) (2*wordB h) xs.length+2*wordB h) hps (by omega) (by omega) 8 0 K w4 rfl (by omega) (by
  show Bk 188 w4 w1.heap.size (seg _ _ [])
  rw[K_tx];exact b4)
 have h5:K_1a K K ⟨w.heap.size,0,none⟩ (IntKind.u64.wrap (((xs.length:Nat):Int)*8)) ⟨w1.heap.size,0,none⟩ ((1+padZ (blk h) (2*wordB h) xs.length+2*wordB h:Nat):Int) 0 w4=_:=h5
 have st5:=st4.upd u5 (by omega)
 have hpc:=K_zn h xs.length (by omega)
 have hplen:=K_131 h xs.length
 have q5:Upd none_ w w5:=(((u1.and0 u2).trans' u3 fun k hk e=>by omega).and0 u4).trans' u5 fun k hk e=>by omega
 have hsrc:Src w5 ⟨some ⟨w1.heap.size,0,none⟩,1+padZ (blk h) (2*wordB h) xs.length+2*wordB h,256⟩ (ints .u8 (pads h xs.length)):=by
  refine⟨by rw[K_3,hplen],(show 1+padZ (blk h) (2*wordB h) xs.length+2*wordB h≤256 by omega),.inr ⟨_,rfl,b5.rd 0 _ fun i v hv=>?_⟩,K_z⟩
  rw[←hpc,List.getElem?_take]at hv
  split at hv
  ·rw[Nat.zero_add];exact hv
  ·cases hv
 obtain⟨w6,H6,half6,h6,st6,f6,u6⟩:=K_z6 hK hk st5 f hC (by omega) (hT.upd q5 fun _=>id) (K_14s h xs.length) (by rw[hplen];omega) hsrc
  (fun p hp _ e=>by have e1:p=⟨w1.heap.size,0,none⟩:=by simpa using hp.symm
                    rw[e1]at e;simp at e;omega)
  (fun p hp _=>by have e1:p=⟨w1.heap.size,0,none⟩:=by simpa using hp.symm
                  rw[e1];exact b5.lt)
 have q6:Upd none_ w w6:=q5.trans' u6 fun k hk e=>by omega
 obtain⟨w7,h7,o7,u7⟩:=K_16x w6 (c:=64) (by decide)
 have h7:mkS prog 23 (.int .i64 0) (.int .i64 64) w6=_:=h7
 have st7:=st6.upd u7 id
 have lW:=st7.bk.ldA (i:=6) (n:=8) (by rw[K_r (by rw[K_26 h _ st7.words st7.len];exact st7.room)];have:=st7.room;omega)
 have h8:=st7.at8
 rw[Nat.zero_add]at h8
 rw[h8]at lW
 have hs7:=q6.size
 have hs76:=u7.size
 obtain⟨s8,w8,h8',o8,bl8,f8⟩:=K_16v hK w6.heap.size hk st7.words (by have:=st6.bk.lt;exact this) 8 0 K w7 ⟨some ⟨w6.heap.size,0,none⟩,0,64⟩ rfl (by omega) st7 (by simpa[outW] using o7) (by omega) (fun k hk=>by simp[Sl.blk]at hk;omega)
 have h8':K_19 K K ⟨w.heap.size,0,none⟩ ⟨some ⟨w6.heap.size,0,none⟩,0,64⟩ (ints .u64 H6).toArray 0 w7=_:=h8'
 have st8:=st7.upd (K_c8 bl8) (by have:=st6.bk.lt;omega)
 obtain⟨k2,k0⟩:=st8.ld2 hk
 have hol:s8.len=8*wordB h:=by rw[o8.len,K_3,K_da]
 have hcap:=o8.cap
 have hq:∃ q:Nat,h / 8=(q:Int)∧q≤8*wordB h∧0<q:=by
  rcases K_dp hk with e | e | e | e <;> subst e
  ·exact⟨28,rfl,by decide,by decide⟩
  ·exact⟨32,rfl,by decide,by decide⟩
  ·exact⟨48,rfl,by decide,by decide⟩
  ·exact⟨64,rfl,by decide,by decide⟩
 obtain⟨q,hq1,hq2,hq3⟩:=hq
 have hH6:H6=compsH h C ((xs ++ pads h xs.length).length / blk h) H0 (xs ++ pads h xs.length):=f6.words
 have hdg:digestOf h C H0 xs=(outW H6 (wordB h) 8).take q:=by unfold digestOf;rw[←hH6,hq1];rfl
 have hdl:(digestOf h C H0 xs).length=q:=by rw[hdg,List.length_take,K_da];omega
 obtain⟨g8,cs8,a8,bk8,_,_,hcl,htk⟩:=o8.bk (fun e=>by have:=congrArg List.length e;rw[K_3,K_da]at this;simp at this;omega)
 refine⟨⟨some ⟨g8,0,none⟩,q,q⟩,w8,?_,⟨⟨g8,cs8,rfl,by have:=f8 g8 (by simp[Sl.blk,a8]);omega,bk8,?_,by rw[hdl];omega⟩,hdl.symm,hdl.symm⟩,(q6.and0 u7).trans' (K_c8 bl8) fun k hk e=>by omega⟩
 ·unfold K_49
  simp only[Nat.zero_add]at l5 m2 m0 k2 k0
  rw[n1,bnd_ok]
  simp only[add_lit,Nat.zero_add,Nat.add_zero,Nat.zero_mul,Nat.sub_zero]
  rw[l5,J_bs,n2,bnd_ok]
  simp only[add_lit,Nat.zero_add,Nat.add_zero,Nat.zero_mul,Nat.sub_zero]
  rw[s3,J_bs,h4,bnd_ok,m2,J_bs]
  simp only[ew,en]
  rw[h5,bnd_ok,if_pos (by omega),J_tn]
  have e0:sla (some ⟨w1.heap.size,0,none⟩) 0 256 1=some ⟨w1.heap.size,0,none⟩:=by unfold sla;rw[if_neg (by decide)];rfl
  rw[e0,h6,bnd_ok,h7,bnd_ok]
  have lW:ldA 8 ⟨w.heap.size,6,none⟩ w7=some (ints .u64 H6).toArray:=lW
  rw[lW,J_bs,h8',bnd_ok,k0,J_bs]
  have e1:sla s8.a 0 q 1=s8.a:=by
   rw[a8];unfold sla;rw[if_neg (by omega)];rfl
  rw[J_bs,hq1,if_pos (by dsimp only;omega),J_tn,if_pos (by omega)]
  dsimp only
  rw[e1,a8]
 ·rw[hdl,hdg,←K_9f,←htk,List.take_take,Nat.min_eq_left (by omega)]
end Go.Sh

namespace Go.Sh
open Go.Fw Go.Sha Go.RowKit Go.Proofs.Tryd
theorem K_zh(K:Nat){h:Int}(hk:known h=false){a2:Addr}:
  ∀ (d i n:Nat) (w:World),i+d=8→d<n→K_v K n h a2 (i:Int) w=some ((),w):=by
 intro d
 have q:(h == 224)=false∧(h == 256)=false∧(h == 384)=false∧(h == 512)=false:=by
  simp[known]at hk ⊢;omega
 induction d with
 | zero=>
  intro i n w hi hn
  obtain⟨n,rfl⟩:∃ m,n=m+1:=⟨n - 1,by omega⟩
  have:i=8:=by omega
  subst this
  show K_1e K (K_v K n) h a2 ((8:Nat):Int) w=_
  unfold K_1e
  rw[if_neg (by decide)]
 | succ d ih=>
  intro i n w hi hn
  obtain⟨n,rfl⟩:∃ m,n=m+1:=⟨n - 1,by omega⟩
  have hd:decide ((i:Int)<8)=true:=by simp;omega
  have e1:IntKind.i64.wrap ((i:Int)+1)=((i+1:Nat):Int):=by rw[w64 (by omega) (by omega)];rfl
  show K_1e K (K_v K n) h a2 (i:Int) w=_
  unfold K_1e
  rw[hd,if_pos rfl,q.1,if_neg (by decide),q.2.1,if_neg (by decide),q.2.2.1,if_neg (by decide),q.2.2.2,if_neg (by decide),e1]
  exact ih (i+1) n w (by omega) (by omega)
theorem K_xt{h:Int}(hk:known h=false)(S:List Int):firstH S h=List.replicate 8 0:=by
 have q:h≠224∧h≠256∧h≠384∧h≠512:=by simp[known]at hk;omega
 unfold firstH
 refine List.eq_replicate_iff.2 ⟨by simp,fun b hb=>?_⟩
 obtain⟨i,_,rfl⟩:=List.mem_map.1 hb
 unfold fw1
 rw[if_neg q.1,if_neg q.2.1,if_neg q.2.2.1,if_neg q.2.2.2]
theorem K_11j{K:Nat}(hK:18446744073709551616≤K)(h:Int){S:List Int}(hS:S.length=16)(hin:∀ i,InK .u64 (S.getD i 0)){w:World}(hT:Rd w ⟨4,0,none⟩ (ints .u64 S)):
  ∃ w',K_4q K h w=some (((ints .u64 (firstH S h)).toArray,()),w')∧Upd none_ w w':=by
 cases hk:known h with
 | true=>exact K_13f hK hk hS hin hT
 | false=>
  obtain⟨w1,n1,b1,u1,z1⟩:=K_g z150 150 w
  have b1:Bk 150 w1 w.heap.size z150.toList:=b1
  have h3:=K_zh K hk (a2:=⟨w.heap.size,0,none⟩) 8 0 K w1 rfl (by omega)
  have h3:K_v K K h ⟨w.heap.size,0,none⟩ 0 w1=_:=h3
  have hl8:(ints .u64 (firstH S h)).length=8:=by rw[K_3,K_3k]
  have ez:z150.toList=ints .u64 (firstH S h):=by rw[K_xt hk];rfl
  rw[ez]at b1
  have l3:=b1.ldA (i:=0) (n:=8) (by rw[hl8];decide)
  rw[List.drop_zero,List.take_of_length_le (by rw[hl8];decide)]at l3
  obtain⟨w4,a1,a2,a3,a4⟩:=lay' b1 (vs:=ints .u64 (firstH S h)) rfl K_z
  rw[hl8]at a4
  refine⟨w4,?_,u1.trans' a3 fun k hk e=>by omega⟩
  unfold K_4q
  rw[n1,bnd_ok,h3,bnd_ok,l3,J_bs,if_pos (by rw[List.size_toArray,hl8]),a1,J_bs,a4,J_bs]
theorem built87(a b c d:Value)(h:Int)(x0 x1 x2 x3 x4 x5 x6 x7:Int):
  prog.built 180 [(0,.agg #[a,b,c,d]),(1,.int .i64 h),(3,.agg #[.int .u64 x0,.int .u64 x1,.int .u64 x2,.int .u64 x3,.int .u64 x4,.int .u64 x5,.int .u64 x6,.int .u64 x7])] =
   some (([a,b,c,d] ++ ([.int .i64 h,.int .u64 0] ++ ([.int .u64 x0,.int .u64 x1,.int .u64 x2,.int .u64 x3,.int .u64 x4,.int .u64 x5,.int .u64 x6,.int .u64 x7] ++ List.replicate 128 (.int .u8 0))):List Value).toArray):=by kernel_rfl
theorem K_10g{β:Type}(v:Value)(k:Option β):sameK v v k=k:=by unfold sameK;rw[if_pos rfl]
theorem list8{α:Type}{l:List α}(h:l.length=8):∃ a b c d e f g i,l=[a,b,c,d,e,f,g,i]:=by
 match l,h with
 | [a,b,c,d,e,f,g,i],_=>exact⟨a,b,c,d,e,f,g,i,rfl⟩
theorem list4{α:Type}{l:List α}(h:l.length=4):∃ a b c d,l=[a,b,c,d]:=by
 match l,h with
 | [a,b,c,d],_=>exact⟨a,b,c,d,rfl⟩
theorem K_xv(h:Int){H:List Int}(hH:H.length=8):
  prog.built 180 [(0,(.agg (kc h).toArray)),(1,(.int .i64 h)),(3,(.agg (ints .u64 H).toArray))]=some (stCells h 0 H (List.replicate 128 0)).toArray:=by
 obtain⟨a,b,c,d,e4⟩:=list4 (K_3l h)
 obtain⟨x0,x1,x2,x3,x4,x5,x6,x7,rfl⟩:=list8 hH
 unfold stCells
 rw[e4]
 refine(built87 a b c d h x0 x1 x2 x3 x4 x5 x6 x7).trans ?_
 rw[show ints .u8 (List.replicate 128 0)=List.replicate 128 (.int .u8 0) from List.map_replicate]
 rfl
theorem K_qn(h:Int)(cnt:Nat)(H half:List Int):∀ v∈stCells h cnt H half,v.oneCell'=true:=by
 intro v hv
 unfold stCells at hv
 simp only[List.mem_append,List.mem_cons,List.not_mem_nil,or_false]at hv
 rcases hv with hv | (rfl | rfl) | hv | hv
 ·exact K_xm h v hv
 ·rfl
 ·rfl
 ·exact K_z v hv
 ·exact K_z v hv
abbrev half0:List Int:=List.replicate 128 0
theorem K_13m{K:Nat}(hK:18446744073709551616≤K)(h:Int){S:List Int}(hS:S.length=16)(hin:∀ i,InK .u64 (S.getD i 0)){w:World}(hT:Rd w ⟨4,0,none⟩ (ints .u64 S)):
  ∃ w',K_7o K h w=some (((stCells h 0 (firstH S h) half0).toArray,known h,()),w')∧Upd none_ w w':=by
 obtain⟨w1,n1,b1,u1,z1⟩:=K_g z180 180 w
 have b1:Bk 180 w1 w.heap.size z180.toList:=b1
 obtain⟨w2,h2,u2⟩:=K_122 h w1
 obtain⟨w3,n3,b3,u3,z3⟩:=K_g z138 138 w2
 have b3:Bk 138 w3 w2.heap.size z138.toList:=b3
 obtain⟨w4,a1,a2,a3,a4⟩:=lay b3 (vs:=kc h) (by rw[K_3l];rfl) (K_xm h)
 rw[K_3l]at a4
 have q4:Upd none_ w w4:=((u1.and0 u2).and0 u3).trans' a3 fun k hk e=>by have:=(u1.and0 u2).size;omega
 have q4d:Upd none_ w w4.drew:=q4.drew
 obtain⟨w5,h5,u5⟩:=K_11j hK h hS hin (hT.upd q4d fun _=>id)
 have l5:=(a2.drew.upd0 u5).ldA (i:=0) (n:=4) (by rw[K_3l];decide)
 rw[List.drop_zero,List.take_of_length_le (by rw[K_3l];decide)]at l5
 have b5:Bk 180 w5 w.heap.size z180.toList:=((((b1.upd0 u2).upd0 u3).upd a3 (by have:=u2.size;omega)).drew).upd0 u5
 obtain⟨w6,c1,c2,c3,c4⟩:=lay b5 (vs:=stCells h 0 (firstH S h) half0) (by rw[K_26 h 0 (K_3k S h) (List.length_replicate ..)];rfl) (K_qn _ _ _ _)
 rw[K_26 h 0 (K_3k S h) (List.length_replicate ..)]at c4
 refine⟨w6,?_,(q4d.and0 u5).trans' c3 fun k hk e=>by omega⟩
 unfold K_7o
 rw[n1,bnd_ok,h2,bnd_ok,n3,bnd_ok]
 dsimp only
 have a4d:ldA 4 ⟨w2.heap.size,0,none⟩ w4.drew=some (kc h).toArray:=a4
 rw[if_pos (by rw[List.size_toArray,K_3l]),a1,J_bs,a4d,J_bs,h5,bnd_ok,l5,J_bs,K_10g,K_xv h (K_3k S h),J_bs,
  if_pos (by rw[List.size_toArray,K_26 h 0 (K_3k S h) (List.length_replicate ..)]),c1,J_bs,c4,J_bs]
theorem built99(cs:List Value)(hc:cs.length=142):prog.built 184 [(0,(.agg cs.toArray))]=some cs.toArray:=
 K_10l (P:=prog) (t:=184) (it:=t184) (f:={name:="state",type:=180,offset:=0,embedded:=true,tag:="",pkgPath:="coffer/digest",byteOffset:=0}) (z:=.agg z180) (by kernel_rfl) (by kernel_rfl) (by kernel_rfl) (i:=t180) (by kernel_rfl) rfl (by rw[hc];kernel_rfl) (by kernel_rfl)
theorem K_16b{K:Nat}(hK:18446744073709551616≤K)(h:Int){S:List Int}(hS:S.length=16)(hin:∀ i,InK .u64 (S.getD i 0)){w:World}(hT:Rd w ⟨4,0,none⟩ (ints .u64 S)):
  ∃ w' g,K_86 K h w=some (((if known h=true then some ⟨g,0,none⟩ else none),(if known h=true then 0 else 10),()),w')∧Upd none_ w w'∧w.heap.size≤g∧
   (known h=true→Bk 184 w' g (stCells h 0 (firstH S h) half0)):=by
 obtain⟨w1,h1,u1⟩:=K_13m hK h hS hin hT
 obtain⟨w2,n2,b2,u2,z2⟩:=K_g z180 180 w1
 have hcl:=K_26 h 0 (K_3k S h) (List.length_replicate (n:=128) (a:=(0:Int)))
 obtain⟨w3,c1,c2,c3,c4⟩:=lay b2 (vs:=stCells h 0 (firstH S h) half0) (by rw[hcl];rfl) (K_qn _ _ _ _)
 have q3:Upd none_ w w3:=(u1.and0 u2).trans' c3 fun k hk e=>by have h1:=u1.size;have e:k=w1.heap.size:=e;omega
 rw[hcl]at c4
 have hs1:=u1.size
 have hs3:=q3.size
 unfold K_86
 rw[h1,bnd_ok,n2,bnd_ok]
 dsimp only
 rw[if_pos (by rw[List.size_toArray,hcl]),c1,J_bs]
 cases hk:known h with
 | true=>
  obtain⟨w4,n4,b4,u4,z4⟩:=K_g (stCells h 0 (firstH S h) half0).toArray 184 w3
  refine⟨w4,w3.heap.size,?_,q3.and0 u4,by omega,fun _=>b4⟩
  rw[if_neg (by decide),c4,J_bs,built99 _ hcl,J_bs,n4,bnd_ok]
  rfl
 | false=>
  refine⟨w3,w.heap.size,?_,q3,Nat.le_refl _,fun e=>by cases e⟩
  rw[if_pos (by decide)]
  rfl
end Go.Sh

namespace Go.Sh
open Go.Fw Go.Sha Go.RowKit Go.Proofs.Tryd
abbrev slV(s:Sl):Value:=.slice s.a s.len s.cap
abbrev nilS:Sl:=⟨none,0,0⟩
theorem K_114{w:World}{p:Addr}{ss:List Sl}(h:Rd w p (ss.map slV)){i:Nat}(hi:i<ss.length):ldS (p.add i) w=some (ss.getD i nilS):=by
 have:=h i (slV (ss.getD i nilS)) (by simp[J_gd,hi])
 simp[ldS,this,asS,slV]
structure Parts(w:World) (s:Sl) (xss:List (List Int)) (Q:Nat→Prop):Prop where
 len:s.len=xss.length
 cap:s.len≤s.cap
 inn:∀ xs∈xss,∀ x∈xs,InK .u8 x
 lens:∀ xs∈xss,xs.length≤140737488351232
 many:xss.length*24≤140737488351232
 rd:xss=[]∨∃ (p:Addr) (ss:List Sl),s.a=some p∧ss.length=xss.length∧Q p.block∧Rd w p (ss.map slV)∧
  ∀ i,i<xss.length→Src w (ss.getD i nilS) (ints .u8 (xss.getD i []))∧∀ q,(ss.getD i nilS).a=some q→xss.getD i []≠[]→Q q.block∧q.block<w.heap.size
theorem Parts.upd{w w':World}{s:Sl}{xss:List (List Int)}{Q S:Nat→Prop}(h:Parts w s xss Q)(u:Upd S w w')(hn:∀ k,Q k→¬S k):Parts w' s xss Q:=
 ⟨h.len,h.cap,h.inn,h.lens,h.many,h.rd.imp id fun⟨p,ss,h1,h2,h3,h4,h5⟩=>⟨p,ss,h1,h2,h3,h4.upd u fun _=>hn _ h3,
  fun i hi=>⟨K_ma (h5 i hi).1 u fun q hq hne=>hn _ ((h5 i hi).2 q hq hne).1,fun q hq hne=>⟨((h5 i hi).2 q hq hne).1,Nat.lt_of_lt_of_le ((h5 i hi).2 q hq hne).2 u.size⟩⟩⟩⟩
theorem Parts.upd0{w w':World}{s:Sl}{xss:List (List Int)}{Q:Nat→Prop}(h:Parts w s xss Q)(u:Upd none_ w w'):Parts w' s xss Q:=h.upd u fun _ _=>id
theorem Parts.mono{w:World}{s:Sl}{xss:List (List Int)}{Q R:Nat→Prop}(h:Parts w s xss Q)(hn:∀ k,Q k→R k):Parts w s xss R:=
 ⟨h.len,h.cap,h.inn,h.lens,h.many,h.rd.imp id fun⟨p,ss,h1,h2,h3,h4,h5⟩=>⟨p,ss,h1,h2,hn _ h3,h4,fun i hi=>⟨(h5 i hi).1,fun q hq hne=>⟨hn _ ((h5 i hi).2 q hq hne).1,((h5 i hi).2 q hq hne).2⟩⟩⟩⟩
structure PartsW(w:World) (s:Sl) (xss:List (List Int)) (Q:Nat→Prop):Prop where
 len:s.len=xss.length
 cap:s.len≤s.cap
 inn:∀ xs∈xss,∀ x∈xs,InK .u8 x
 lens:∀ xs∈xss,xs.length≤140737488351232
 many:xss.length*24≤140737488351232
 rd:xss=[]∨∃ (p:Addr) (ss:List Sl),s.a=some p∧ss.length=xss.length∧Q p.block∧Rd w p (ss.map slV)∧
  ∀ i,i<xss.length→Src w (ss.getD i nilS) (ints .u8 (xss.getD i []))∧∀ q,(ss.getD i nilS).a=some q→xss.getD i []≠[]→Q q.block
theorem K_14q{S:Nat→Prop}{w w':World}{s:Sl}{vs:List Value}(h:Src w s vs)(u:Upd S w w')(hn:∀ p,s.a=some p→vs≠[]→¬S p.block):Src w' s vs:=
 ⟨h.len,h.cap,h.rd.imp id fun⟨p,hp,hr⟩=>⟨p,hp,hr.upd u fun hne=>hn p hp hne⟩,h.one⟩
theorem K_15v{κ:IntKind}{xs:List Int}(h:ints κ xs≠[]):xs≠[]:=fun e=>h (by rw[e];rfl)
theorem PartsW.upd{w w':World}{s:Sl}{xss:List (List Int)}{Q S:Nat→Prop}(h:PartsW w s xss Q)(u:Upd S w w')(hn:∀ k,Q k→¬S k):PartsW w' s xss Q:=
 ⟨h.len,h.cap,h.inn,h.lens,h.many,h.rd.imp id fun⟨p,ss,h1,h2,h3,h4,h5⟩=>⟨p,ss,h1,h2,h3,h4.upd u fun _=>hn _ h3,
  fun i hi=>⟨K_14q (h5 i hi).1 u fun q hq hne=>hn _ ((h5 i hi).2 q hq (K_15v hne)),(h5 i hi).2⟩⟩⟩
theorem PartsW.upd0{w w':World}{s:Sl}{xss:List (List Int)}{Q:Nat→Prop}(h:PartsW w s xss Q)(u:Upd none_ w w'):PartsW w' s xss Q:=h.upd u fun _ _=>id
theorem PartsW.at{w:World}{s:Sl}{xss:List (List Int)}{Q:Nat→Prop}(h:PartsW w s xss Q){i:Nat}(hi:i<xss.length):
  ∃ p t,s.a=some p∧ldS (p.add i) w=some t∧Src w t (ints .u8 (xss.getD i []))∧t.len=(xss.getD i []).length∧(xss.getD i []).length≤140737488351232∧∀ x∈xss.getD i [],InK .u8 x:=by
 rcases h.rd with e | ⟨p,ss,h1,h2,h3,h4,h5⟩
 ·rw[e]at hi;simp at hi
 ·have hm:xss.getD i []∈xss:=by rw[J_gd,J_ge hi];exact List.getElem_mem hi
  have hs:=(h5 i hi).1
  exact⟨p,_,h1,K_114 h4 (by omega),hs,by rw[hs.len,K_3],h.lens _ hm,h.inn _ hm⟩
theorem Parts.at{w:World}{s:Sl}{xss:List (List Int)}{Q:Nat→Prop}(h:Parts w s xss Q){i:Nat}(hi:i<xss.length):
  ∃ p t,s.a=some p∧ldS (p.add i) w=some t∧Src w t (ints .u8 (xss.getD i []))∧(∀ q,t.a=some q→xss.getD i []≠[]→Q q.block∧q.block<w.heap.size)∧t.len=(xss.getD i []).length∧(xss.getD i []).length≤140737488351232∧∀ x∈xss.getD i [],InK .u8 x:=by
 rcases h.rd with e | ⟨p,ss,h1,h2,h3,h4,h5⟩
 ·rw[e]at hi;simp at hi
 ·have hm:xss.getD i []∈xss:=by rw[J_gd,J_ge hi];exact List.getElem_mem hi
  have hs:=(h5 i hi).1
  exact⟨p,_,h1,K_114 h4 (by omega),hs,(h5 i hi).2,by rw[hs.len,K_3],h.lens _ hm,h.inn _ hm⟩
theorem K_uo{α:Type}{l:List α}{i:Nat}(hi:i<l.length)(d:α):l.drop i=l.getD i d :: l.drop (i+1):=by
 rw[List.drop_eq_getElem_cons hi,J_gd,J_ge hi];rfl
def totB(acc:Nat):List (List Int)→Nat
 | []=>acc
 | xs :: r=>if acc+xs.length > 33554432 then acc+xs.length else totB (acc+xs.length) r
theorem K_z9:∀ (xss:List (List Int)) (acc:Nat),acc≤33554432→(totB acc xss≤33554432↔acc+xss.flatten.length≤33554432)∧(totB acc xss≤33554432→totB acc xss=acc+xss.flatten.length)
 | [],acc,h=>by simp[totB,h]
 | xs :: r,acc,h=>by
  unfold totB
  rw[List.flatten_cons,List.length_append]
  split
  ·constructor
   ·constructor <;> intro _ <;> omega
   ·intro _;omega
  ·have:=K_z9 r (acc+xs.length) (by omega)
   rw[←Nat.add_assoc];exact this
theorem K_yj:∀ (xss:List (List Int)) (acc:Nat),acc≤33554432→(∀ xs∈xss,xs.length≤140737488351232)→totB acc xss≤140737521905664
 | [],acc,h,_=>by simp only[totB];omega
 | xs :: r,acc,h,hl=>by
  have h0:=hl xs (List.mem_cons_self ..)
  unfold totB
  split
  ·omega
  ·exact K_yj r _ (by omega) fun x hx=>hl x (List.mem_cons_of_mem _ hx)
theorem K_zg(K:Nat){s:Sl}{xss:List (List Int)}{Q:Nat→Prop}{w:World}(h:Parts w s xss Q):
  ∀ (d i n acc:Nat),i+d=xss.length→d<n→acc≤33554432→K_2h K n (acc:Int) s ((s.len:Nat):Int) (i:Int) w=some (.norm (((totB acc (xss.drop i):Nat):Int),())):=by
 intro d
 have hm:=h.many
 induction d with
 | zero=>
  intro i n acc hi hn ha
  obtain⟨n,rfl⟩:∃ m,n=m+1:=⟨n - 1,by omega⟩
  have hd:decide ((i:Int)<((s.len:Nat):Int))=false:=by rw[h.len];simp;omega
  show K_5g K w (fun a b c d=>K_2h K n a b c d w) (acc:Int) s ((s.len:Nat):Int) (i:Int)=_
  unfold K_5g
  rw[hd,if_neg (by decide),List.drop_eq_nil_of_le (by omega)]
  rfl
 | succ d ih=>
  intro i n acc hi hn ha
  obtain⟨n,rfl⟩:∃ m,n=m+1:=⟨n - 1,by omega⟩
  have hd:decide ((i:Int)<((s.len:Nat):Int))=true:=by rw[h.len];simp;omega
  obtain⟨p,t,h1,h2,h3,h4,h5,h6,h7⟩:=h.at (i:=i) (by omega)
  have c:(0:Int)≤(i:Int)∧(i:Int)<((s.len:Nat):Int):=by rw[h.len];omega
  have e1:IntKind.i64.wrap ((i:Int)+1)=((i+1:Nat):Int):=by rw[w64 (by omega) (by omega)];rfl
  have e2:IntKind.i64.wrap ((acc:Int)+(((xss.getD i []).length:Nat):Int))=((acc+(xss.getD i []).length:Nat):Int):=by rw[w64 (by omega) (by omega)];rfl
  show K_5g K w (fun a b c d=>K_2h K n a b c d w) (acc:Int) s ((s.len:Nat):Int) (i:Int)=_
  unfold K_5g
  rw[hd,if_pos rfl,h1,J_bs,if_pos c,J_tn,Nat.mul_one,h2,J_bs,h5,e2,e1,K_uo (by omega) []]
  unfold totB
  by_cases hb:acc+(xss.getD i []).length > 33554432
  ·have hd2:decide (((acc+(xss.getD i []).length:Nat):Int) > 33554432)=true:=by simp only[decide_eq_true_eq];omega
   rw[hd2,if_pos rfl,if_pos hb]
  ·have hd2:decide (((acc+(xss.getD i []).length:Nat):Int) > 33554432)=false:=by simp only[decide_eq_false_iff_not];omega
   rw[hd2,if_neg (by decide),if_neg hb]
   exact ih (i+1) n _ (by omega) (by omega) (by omega)
theorem K_13s{K:Nat}(hK:18446744073709551616≤K){s:Sl}{xss:List (List Int)}{Q:Nat→Prop}{w:World}(h:Parts w s xss Q):
  K_7e K s w=some (((totB 0 xss:Nat):Int),()):=by
 have hm:=h.many
 have hl:=K_zg K h xss.length 0 K 0 (by omega) (by omega) (by omega)
 rw[List.drop_zero]at hl
 have hl:K_2h K K 0 s ((s.len:Nat):Int) 0 w=_:=hl
 unfold K_7e
 rw[hl,J_bs]
end Go.Sh

namespace Go.Sh
open Go.Fw Go.Sha Go.RowKit Go.Proofs.Tryd
structure Tabs(w:World) (C S:List Int):Prop where
 cl:C.length=80
 sl:S.length=16
 sin:∀ i,InK .u64 (S.getD i 0)
 gc:Rd w ⟨3,0,none⟩ (ints .u64 C)
 gs:Rd w ⟨4,0,none⟩ (ints .u64 S)
theorem Tabs.upd{w w':World}{C S:List Int}{X:Nat→Prop}(t:Tabs w C S)(u:Upd X w w')(hn:∀ k,k<5→¬X k):Tabs w' C S:=
 ⟨t.cl,t.sl,t.sin,t.gc.upd u fun _=>hn _ (by decide),t.gs.upd u fun _=>hn _ (by decide)⟩
theorem Tabs.upd0{w w':World}{C S:List Int}(t:Tabs w C S)(u:Upd none_ w w'):Tabs w' C S:=t.upd u fun _ _=>id
theorem Tabs.drew{w:World}{C S:List Int}(t:Tabs w C S):Tabs w.drew C S:=t.upd0 (Upd.refl _ _).drew
theorem Tabs.lt{w:World}{C S:List Int}(t:Tabs w C S):5≤w.heap.size:=by
 have:=t.gs.lt (fun e=>by have:=congrArg List.length e;simp[t.sl]at this)
 have:4<w.heap.size:=this
 omega
structure TabsR(w:World) (C S:List Int):Prop where
 to:Tabs w C S
 rc:Rd w ⟨2,0,none⟩ (ints .u64 C)
 rs:Rd w ⟨1,0,none⟩ (ints .u64 S)
theorem TabsR.upd{w w':World}{C S:List Int}{X:Nat→Prop}(t:TabsR w C S)(u:Upd X w w')(hn:∀ k,k<5→¬X k):TabsR w' C S:=
 ⟨t.to.upd u hn,t.rc.upd u fun _=>hn _ (by decide),t.rs.upd u fun _=>hn _ (by decide)⟩
theorem TabsR.upd0{w w':World}{C S:List Int}(t:TabsR w C S)(u:Upd none_ w w'):TabsR w' C S:=t.upd u fun _ _=>id
theorem TabsR.lt{w:World}{C S:List Int}(t:TabsR w C S):5≤w.heap.size:=t.to.lt
theorem K_zi{K:Nat}(hK:18446744073709551616≤K){e:TypeId}{g:Nat}{cs0:List Value}{h:Int}(hk:known h=true){C H0:List Int}(hC:C.length=80)(hgC:g≠3){s:Sl}{xss:List (List Int)}{Q:Nat→Prop}(hQ:¬Q g):
  ∀ (d i n:Nat) (w:World) (xs H half:List Int),i+d=xss.length→d<n→StAt w e g 0 cs0 h xs.length H half→Fed h C H0 xs H half→Rd w ⟨3,0,none⟩ (ints .u64 C)→Parts w s xss Q→xs.length+(xss.drop i).flatten.length≤140737488355328→
   ∃ w' H' half',K_u K n (some ⟨g,0,none⟩) s ((s.len:Nat):Int) (i:Int) w=some ((),w')∧StAt w' e g 0 cs0 h (xs ++ (xss.drop i).flatten).length H' half'∧Fed h C H0 (xs ++ (xss.drop i).flatten) H' half'∧Upd (· =g) w w':=by
 intro d
 induction d with
 | zero=>
  intro i n w xs H half hi hn st f hT hp hl
  obtain⟨n,rfl⟩:∃ m,n=m+1:=⟨n - 1,by omega⟩
  have hd:decide ((i:Int)<((s.len:Nat):Int))=false:=by rw[hp.len];simp;omega
  have e0:xs ++ (xss.drop i).flatten=xs:=by rw[List.drop_eq_nil_of_le (by omega)];simp
  refine⟨w,H,half,?_,by rw[e0];exact st,by rw[e0];exact f,Upd.refl _ _⟩
  show K_1y K (K_u K n) (some ⟨g,0,none⟩) s ((s.len:Nat):Int) (i:Int) w=_
  unfold K_1y
  rw[hd,if_neg (by decide)]
 | succ d ih=>
  intro i n w xs H half hi hn st f hT hp hl
  obtain⟨n,rfl⟩:∃ m,n=m+1:=⟨n - 1,by omega⟩
  have hm:=hp.many
  have hd:decide ((i:Int)<((s.len:Nat):Int))=true:=by rw[hp.len];simp;omega
  obtain⟨p,t,h1,h2,h3,h4,h5,h6,h7⟩:=hp.at (i:=i) (by omega)
  have c:(0:Int)≤(i:Int)∧(i:Int)<((s.len:Nat):Int):=by rw[hp.len];omega
  have e1:IntKind.i64.wrap ((i:Int)+1)=((i+1:Nat):Int):=by rw[w64 (by omega) (by omega)];rfl
  have hdr:(xss.drop i).flatten=xss.getD i [] ++ (xss.drop (i+1)).flatten:=by rw[K_uo (by omega) [],List.flatten_cons]
  rw[hdr,List.length_append]at hl
  obtain⟨w1,H1,half1,a1,a2,a3,a4⟩:=K_z6 hK hk st f hC hgC hT h7 (by omega) h3 (fun q hq hne e=>hQ (e ▸ (h4 q hq hne).1)) (fun q hq hne=>(h4 q hq hne).2)
  obtain⟨w2,H2,half2,b1,b2,b3,b4⟩:=ih (i+1) n w1 (xs ++ xss.getD i []) H1 half1 (by omega) (by omega) a2 a3 (hT.upd a4 fun _ e=>hgC e.symm) (hp.upd a4 fun k hk e=>hQ (e ▸ hk)) (by rw[List.length_append];omega)
  rw[List.append_assoc,←hdr]at b2 b3
  refine⟨w2,H2,half2,?_,b2,b3,a4.trans' b4 fun _ _ e=>e⟩
  show K_1y K (K_u K n) (some ⟨g,0,none⟩) s ((s.len:Nat):Int) (i:Int) w=_
  unfold K_1y
  rw[hd,if_pos rfl,h1,J_bs,if_pos c,J_tn,Nat.mul_one,h2,J_bs,J_bs,add_lit,Nat.add_zero,a1,bnd_ok,e1,b1]
theorem K_13j{xss:List (List Int)}(hl:∀ xs∈xss,xs.length≤140737488351232){n:Nat}(hn:n≤33554432):IntKind.u64.wrap ((n:Int)+IntKind.u64.wrap ((totB 0 xss:Nat):Int))=((n+totB 0 xss:Nat):Int):=by
 have:=K_yj xss 0 (by omega) hl
 rw[IntKind.wrap_u64,IntKind.wrap_u64];omega
theorem K_12d{K:Nat} (hK:18446744073709551616≤K) {w:World} {e:TypeId} {g:Nat} {cs0:List Value} {h:Int} (hk:known h=true) {C H0 xs H half:List Int} (hC:C.length=80) (hgC:g≠3) (st:StAt w e g 0 cs0 h xs.length H half) (f:Fed h C H0 xs H half)
  (hT:Rd w ⟨3,0,none⟩ (ints .u64 C)) {s:Sl} {xss:List (List Int)} {Q:Nat→Prop} (hQ:¬Q g) (hp:Parts w s xss Q) (hl:xs.length+xss.flatten.length≤33554432):
  ∃ w' H' half',K_2n K (some ⟨g,0,none⟩) s w=some ((0,()),w')∧StAt w' e g 0 cs0 h (xs ++ xss.flatten).length H' half'∧Fed h C H0 (xs ++ xss.flatten) H' half'∧Upd (· =g) w w':=by
 obtain⟨l1,l5,l3⟩:=st.drew.ld hk
 have hpd:=hp.upd0 (Upd.refl none_ w).drew
 have ht:=K_13s hK hpd
 obtain⟨w2,H2,half2,b1,b2,b3,b4⟩:=K_zi hK hk hC hgC hQ xss.length 0 K w.drew xs H half (by omega) (by have:=hp.many;omega) st.drew f (hT.upd (S:=none_) (Upd.refl _ _).drew fun _=>id) hpd (by rw[List.drop_zero];omega)
 rw[List.drop_zero]at b2 b3
 have b1:K_u K K (some ⟨g,0,none⟩) s ((s.len:Nat):Int) 0 w.drew=_:=b1
 have htl:=K_z9 xss 0 (by omega)
 have h1:totB 0 xss≤33554432:=htl.1.2 (by omega)
 have h2:=htl.2 h1
 have hd:decide (((xs.length+totB 0 xss:Nat):Int) > 33554432)=false:=by simp only[decide_eq_false_iff_not];omega
 refine⟨w2,H2,half2,?_,b2,b3,b4.predrew⟩
 unfold K_2n
 rw[if_neg (by simp),J_bs,add_lit,add_lit,l5,J_bs,ht,J_bs]
 dsimp only
 rw[K_13j hp.lens (by omega),hd,if_neg (by decide),b1,bnd_ok]
theorem Ans.mono{B B':Nat}{w:World}{s:Sl}{zs:List Int}(h:Ans B w s zs)(hb:B'≤B):Ans B' w s zs:=by
 obtain⟨⟨g,cs,h1,h2,h3⟩,h4,h5⟩:=h
 exact⟨⟨g,cs,h1,by omega,h3⟩,h4,h5⟩
theorem Ans.upd{B:Nat}{w w':World}{s:Sl}{zs:List Int}{X:Nat→Prop}(h:Ans B w s zs)(u:Upd X w w')(hn:∀ k,s.blk=some k→¬X k):Ans B w' s zs:=by
 obtain⟨⟨g,cs,h1,h2,h3,h6⟩,h4,h5⟩:=h
 exact⟨⟨g,cs,h1,h2,h3.upd u (hn g (by simp[Sl.blk,h1])),h6⟩,h4,h5⟩
theorem Ans.upd0{B:Nat}{w w':World}{s:Sl}{zs:List Int}(h:Ans B w s zs)(u:Upd none_ w w'):Ans B w' s zs:=h.upd u fun _ _=>id
theorem Ans.src{B:Nat}{w:World}{s:Sl}{zs:List Int}(h:Ans B w s zs):Src w s (ints .u8 zs):=by
 obtain⟨⟨g,cs,h1,h2,h3,h4,h5⟩,h6,h7⟩:=h
 refine⟨by rw[K_3];exact h6,by omega,.inr ⟨_,h1,h3.rd 0 _ fun i v hv=>?_⟩,K_z⟩
 rw[←h4,List.getElem?_take]at hv
 split at hv
 ·rw[Nat.zero_add];exact hv
 ·cases hv
theorem Ans.rd{B:Nat}{w:World}{s:Sl}{zs:List Int}(h:Ans B w s zs):RdS .u8 w s zs:=h.src.rds
theorem Ans.vw{B:Nat}{w:World}{s:Sl}{zs:List Int}(h:Ans B w s zs)(hm:zs.length≤65536):Vw 5 w s (ints .u8 zs):=by
 obtain⟨⟨g,cs,h1,h2,h3,h4,h5⟩,h6,h7⟩:=h
 refine⟨by rw[K_3];exact h6.symm,.inr ⟨g,0,cs,h1,h3,by omega,by simp only[maxLen];omega,by omega,?_⟩⟩
 rw[List.drop_zero,h6];exact h4
theorem Ans.lt{B:Nat}{w:World}{s:Sl}{zs:List Int}(h:Ans B w s zs){k:Nat}(hk:s.blk=some k):k<w.heap.size:=by
 obtain⟨⟨g,cs,h1,h2,h3,_⟩,_⟩:=h
 simp[Sl.blk,h1]at hk;have:=h3.lt;omega
theorem K_xj{K:Nat} (hK:18446744073709551616≤K) {w:World} {e:TypeId} {g:Nat} {cs0:List Value} {h:Int} (hk:known h=true) {C H0 xs H half:List Int} (hC:C.length=80) (st:StAt w e g 0 cs0 h xs.length H half) (f:Fed h C H0 xs H half)
  (hT:Rd w ⟨3,0,none⟩ (ints .u64 C)) (hl:xs.length≤1099511627776):
  ∃ s' w',K_3u K (some ⟨g,0,none⟩) w=some ((s',()),w')∧Ans w.heap.size w' s' (digestOf h C H0 xs)∧Upd none_ w w':=by
 have hsl:=K_26 h xs.length st.words st.len
 have hrm:=st.room
 have lA:=st.bk.ldA (i:=0) (n:=142) (by rw[K_r (by omega)];omega)
 have e0:((seg cs0 0 (stCells h xs.length H half)).drop 0).take 142=stCells h xs.length H half:=by
  unfold seg
  rw[List.drop_zero,List.take_zero,List.nil_append,List.take_append_of_le_length (by omega),List.take_of_length_le (by omega)]
 rw[e0]at lA
 obtain⟨s',w',h1,h2,h3⟩:=K_175 hK hk f st.words st.inn hC hT hl
 refine⟨s',w',?_,h2,h3⟩
 unfold K_3u
 rw[if_neg (by simp),J_bs,add_lit,lA,J_bs,h1,bnd_ok]
theorem K_12f:∀ x∈half0,InK .u8 x:=by
 intro x hx
 rw[(List.mem_replicate.1 hx).2];exact⟨by decide,by decide⟩
theorem K_16h{K:Nat}(hK:18446744073709551616≤K){h:Int}(hk:known h=true){C S:List Int}{w:World}(T:Tabs w C S):
  ∃ w' g,K_86 K h w=some ((some ⟨g,0,none⟩,0,()),w')∧Upd none_ w w'∧w.heap.size≤g∧StAt w' 184 g 0 (stCells h 0 (firstH S h) half0) h ([]:List Int).length (firstH S h) half0∧Fed h C (firstH S h) [] (firstH S h) half0:=by
 obtain⟨w1,g,h1,h2,h3,h4⟩:=K_16b hK h T.sl T.sin T.gs
 rw[if_pos hk,if_pos hk]at h1
 refine⟨w1,g,h1,h2,h3,⟨?_,by rw[K_26 h 0 (K_3k S h) (List.length_replicate ..)];decide,K_3k S h,List.length_replicate ..,K_12f⟩,Fed.start ..⟩
 have:seg (stCells h 0 (firstH S h) half0) 0 (stCells h ([]:List Int).length (firstH S h) half0)=stCells h 0 (firstH S h) half0:=K_wy
 rw[this];exact h4 hk
theorem K_165{K:Nat}(hK:18446744073709551616≤K){h:Int}(hk:known h=true){C S:List Int}{w:World}(T:Tabs w C S){s:Sl}{xss:List (List Int)}{Q:Nat→Prop}(hp:Parts w s xss Q)(hQ:∀ k,Q k→k<w.heap.size)(hl:xss.flatten.length≤33554432):
  ∃ s' w',K_84 K h s w=some ((s',0,()),w')∧Ans w.heap.size w' s' (digestOf h C (firstH S h) xss.flatten)∧Upd none_ w w':=by
 have h4:=T.lt
 obtain⟨w1,g,h1,u1,hg,st,f⟩:=K_16h hK hk T
 have T1:=T.upd0 u1
 obtain⟨w2,H2,half2,h2,st2,f2,u2⟩:=K_12d hK hk T.cl (by omega) st f T1.gc (fun e=>by have:=hQ g e;omega) (hp.upd0 u1) (by simpa using hl)
 have T2:=T1.upd u2 (fun k hk e=>by omega)
 rw[List.nil_append]at st2 f2
 obtain⟨s3,w3,h3,a3,u3⟩:=K_xj hK hk T.cl st2 f2 T2.gc (by omega)
 have hs1:=u1.size
 have hs2:=u2.size
 refine⟨s3,w3,?_,a3.mono (by omega),(u1.trans' u2 fun k hk e=>by omega).and0 u3⟩
 unfold K_84 K_az
 rw[h1,bnd_ok]
 dsimp only
 rw[if_pos (by decide),h2,bnd_ok,bnd_ok]
 dsimp only
 rw[if_neg (by decide),h3,bnd_ok]
end Go.Sh

namespace Go.Sh
open Go.Fw Go.Sha Go.RowKit Go.Proofs.Tryd
end Go.Sh

namespace Go.Sh
open Go.Fw Go.Sha Go.RowKit Go.Proofs.Tryd
def LentOne(w:World)(B N:Nat)(l:Sl)(p:Sl×List Int):Prop:=
 ∃ g cap,p.1=⟨some ⟨g,0,none⟩,p.2.length,cap⟩∧B≤g∧g<N∧l.blk≠some g∧OwnS 5 w ⟨some ⟨g,0,none⟩,p.2.length+70,cap⟩ (ints .u8 (p.2 ++ marks))
structure Lent(w:World) (B N:Nat) (l:Sl) (xss:List (List Int)):Prop where
 ex:∃ ps:List (Sl×List Int),ps.map Prod.snd=xss∧OwnS 23 w l (ps.map fun p=>slV p.1)∧∀ p∈ps,LentOne w B N l p
 fr:∀ k,l.blk=some k→B≤k∧k<N
 nn:N≤w.heap.size
theorem Lent.upd{w w':World}{B N:Nat}{l:Sl}{xss:List (List Int)}{X:Nat→Prop}(h:Lent w B N l xss)(u:Upd X w w')(hn:∀ k,B≤k→k<N→¬X k):Lent w' B N l xss:=by
 obtain⟨⟨ps,h1,h2,h3⟩,h4,h5⟩:=h
 refine⟨⟨ps,h1,h2.upd u fun k hk=>hn k (h4 k hk).1 (h4 k hk).2,fun p hp=>?_⟩,h4,Nat.le_trans h5 u.size⟩
 obtain⟨g,cap,a1,a2,a3,a4,a5⟩:=h3 p hp
 exact⟨g,cap,a1,a2,a3,a4,a5.upd u fun k hk=>by simp[Sl.blk]at hk;subst hk;exact hn _ a2 a3⟩
theorem Lent.upd0{w w':World}{B N:Nat}{l:Sl}{xss:List (List Int)}(h:Lent w B N l xss)(u:Upd none_ w w'):Lent w' B N l xss:=h.upd u fun _ _ _=>id
theorem LentOne.src{w:World}{B N:Nat}{l:Sl}{p:Sl×List Int}(h:LentOne w B N l p):Src w p.1 (ints .u8 p.2):=by
 obtain⟨g,cap,a1,a2,a3,a4,a5⟩:=h
 rw[a1];exact(K_wr a5).src K_z
theorem Lent.parts{w w0:World}{B N:Nat}{l s:Sl}{xss:List (List Int)}{Q:Nat→Prop}(h:Lent w B N l xss)(hp:PartsW w0 s xss Q):Parts w l xss fun k=>B≤k∧k<N:=by
 obtain⟨⟨ps,a1,a2,a3⟩,a4,a5⟩:=h
 have hll:l.len=xss.length:=by rw[a2.len,←a1];simp
 refine⟨hll,a2.cap.1,hp.inn,hp.lens,hp.many,?_⟩
 have hsrc:=a2.src (fun v hv=>by obtain⟨x,_,rfl⟩:=List.mem_map.1 hv;rfl)
 rcases hsrc.rd with ⟨b1,b2,b3⟩ | ⟨p,b1,b2⟩
 ·left
  have:ps=[]:=by simpa using b3
  rw[←a1,this];rfl
 ·right
  refine⟨p,ps.map Prod.fst,b1,by rw[←a1];simp,a4 p.block (by simp[Sl.blk,b1]),by rw[List.map_map];exact b2,fun i hi=>?_⟩
  have hi2:i<ps.length:=by rw[←a1]at hi;simpa using hi
  have e1:(ps.map Prod.fst).getD i nilS=ps[i].1:=by simp[J_gd,hi2]
  have e2:xss.getD i []=ps[i].2:=by rw[←a1];simp[J_gd,hi2]
  have h0:=a3 ps[i] (List.getElem_mem hi2)
  rw[e1,e2]
  refine⟨h0.src,fun q hq _=>?_⟩
  obtain⟨g,cap,f1,f2,f3,f4,f5⟩:=h0
  rw[f1]at hq
  obtain rfl:=Option.some.inj hq
  exact⟨⟨f2,f3⟩,by show g<w.heap.size;omega⟩
theorem Lent.at{w:World}{B N:Nat}{l:Sl}{xss:List (List Int)}(h:Lent w B N l xss){i:Nat}(hi:i<xss.length):
  ∃ p g cap,l.a=some p∧l.len=xss.length∧ldS (p.add i) w=some ⟨some ⟨g,0,none⟩,(xss.getD i []).length,cap⟩∧B≤g∧g<N∧l.blk≠some g∧OwnS 5 w ⟨some ⟨g,0,none⟩,(xss.getD i []).length+70,cap⟩ (ints .u8 (xss.getD i [] ++ marks)):=by
 obtain⟨⟨ps,a1,a2,a3⟩,a4,a5⟩:=h
 have hll:l.len=xss.length:=by rw[a2.len,←a1];simp
 have hi2:i<ps.length:=by rw[←a1]at hi;simpa using hi
 have e2:xss.getD i []=ps[i].2:=by rw[←a1];simp[J_gd,hi2]
 obtain⟨g,cap,f1,f2,f3,f4,f5⟩:=a3 ps[i] (List.getElem_mem hi2)
 have hsrc:=a2.src (fun v hv=>by obtain⟨x,_,rfl⟩:=List.mem_map.1 hv;rfl)
 rcases hsrc.rd with ⟨b1,b2,b3⟩ | ⟨p,b1,b2⟩
 ·have:ps=[]:=by simpa using b3
  rw[this]at hi2;simp at hi2
 ·rw[e2]
  refine⟨p,g,cap,b1,hll,?_,f2,f3,f4,f5⟩
  have:=b2 i (slV ps[i].1) (by simp[hi2])
  rw[f1]at this
  simp[ldS,this,asS,slV]
theorem K_xp(h:Int)(C H0 xs:List Int):∀ x∈digestOf h C H0 xs,InK .u8 x:=by
 have key:∀ (H:List Int) (m i:Nat),∀ x∈outW H m i,InK .u8 x:=by
  intro H m i
  induction i with
  | zero=>intro x hx;simp[outW]at hx
  | succ i ih=>
   intro x hx
   simp only[outW,List.mem_append]at hx
   rcases hx with hx | hx
   ·exact ih x hx
   ·exact K_tg _ m x hx
 intro x hx
 exact key _ _ _ x (List.mem_of_mem_take hx)
end Go.Sh

namespace Go.Sh
open Go.Fw Go.Sha Go.RowKit Go.Proofs.Tryd
theorem known256:known 256=true:=rfl
end Go.Sh

namespace Go.Sh
open Go.Fw Go.Sha Go.RowKit Go.Proofs.Tryd Go.Deep Go.ChangeShapes Go.WideShapes
theorem wf_u8{n:Int}(h:(Lit.int .u8 n).wf=true):InK .u8 n:=by
 have h2:0≤n∧n≤255:=by simpa[Lit.wf,IntKind.bits,IntKind.min,IntKind.max,IntKind.signed] using h
 exact⟨h2.1,by have:=h2.2;simp only[IntKind.bits];omega⟩
theorem K_zk:1≤prog.bytesOf 5:=of_decide_eq_true (by kernel_rfl)
theorem und_B:prog.underlying 5=some (.int .u8):=by kernel_rfl
theorem K_102:prog.cellsOf 5=1:=by kernel_rfl
theorem K_130{H:Type}{κ:IntKind}{zs:List Int}{n:Nat}:(lits (H:=H) κ (zs.take n)).length+(lits (H:=H) κ (zs.drop n)).length=zs.length:=by
 simp only[lits,List.length_map,List.length_take,List.length_drop];omega
structure BytesIn(W:World) (s:Sl) (xs:List Int):Prop where
 src:Src W s (ints .u8 xs)
 inn:∀ x∈xs,InK .u8 x
 len:xs.length≤140737488351232
 cap:s.cap≤140737488351232
theorem K_nu{H:Type}{enc:TypeId×Value→H}{W:World}{x:DataW H×List MemPlace}{fuel:Nat}{cs:List Value}(hf:DataW.trod enc prog W 0 (fun _=>true) true fuel 23 cs=some x)(hw:∀ n∈x.1.weights prog 23,n≤reachBytes):
  ∃ s xs,cs=[slV s]∧BytesIn W s xs:=by
 rcases open_ints sliceB.ht und_B K_102 hf with ⟨hcs,hy⟩ | ⟨a',len',cap',zs,hcs,hb',hl',hm',hz,hy,hcell,hwz⟩
 ·exact⟨nilS,[],hcs,⟨rfl,Nat.le_refl _,.inl ⟨rfl,rfl,rfl⟩,K_z⟩,by simp,by simp,by simp[nilS]⟩
 ·have hz:zs.length=cap':=by simpa using hz
  have hzl:zs.length≤140737488351232:=by
   have:=hw (zs.length*prog.bytesOf 5) (by
    rw[hy]
    simp only[DataW.weights,sliceB.ht,K_130]
    exact List.mem_cons_self ..)
   exact Nat.le_trans (Nat.le_mul_of_pos_right _ K_zk) this
  refine⟨⟨some a',len',cap'⟩,zs.take len',hcs,⟨by simp;omega,hl',.inr ⟨a',rfl,fun j v hv=>?_⟩,K_z⟩,fun x hx=>wf_u8 (hwz x (List.mem_of_mem_take hx)),by simp;omega,by show cap'≤_;omega⟩
  have hj:j<len'∧j<zs.length:=by
   have:=(List.getElem?_eq_some_iff.1 hv).1
   simp at this;omega
  rw[hcell j hj.2]
  simp only[ints,List.getElem?_map,List.getElem?_take,if_pos hj.1]at hv
  rw[J_ge hj.2]at hv
  rw[J_gd,J_ge hj.2]
  exact hv
end Go.Sh

namespace Go.Sh
open Go.Fw Go.Sha Go.RowKit Go.Proofs.Tryd Go.Deep Go.ChangeShapes Go.WideShapes
def cubesC:List Int:=[4794697086780616226,8158064640168781261,13096744586834688815,16840607885511220156,4131703408338449720,6480981068601479193,10538285296894168987,12329834152419229976,15566598209576043074,1334009975649890238,2608012711638119052,6128411473006802146,8268148722764581231,9286055187155687089,11230858885718282805,13951009754708518548,16472876342353939154,17275323862435702243,1135362057144423861,2597628984639134821,3308224258029322869,5365058923640841347,6679025012923562964,8573033837759648693,10970295158949994411,12119686244451234320,12683024718118986047,13788192230050041572,14330467153632333762,15395433587784984357,489312712824947311,1452737877330783856,2861767655752347644,3322285676063803686,5560940570517711597,5996557281743188959,7280758554555802590,8532644243296465576,9350256976987008742,10552545826968843579,11727347734174303076,12113106623233404929,14000437183269869457,14369950271660146224,15101387698204529176,15463397548674623760,17586052441742319658,1182934255886127544,1847814050463011016,2177327727835720531,2830643537854262169,3796741975233480872,4115178125766777443,5681478168544905931,6601373596472566643,7507060721942968483,8399075790359081724,8693463985226723168,9568029438360202098,10144078919501101548,10430055236837252648,11840083180663258601,13761210420658862357,14299343276471374635,14566680578165727644,15097957966210449927,16922976911328602910,17689382322260857208,500013540394364858,748580250866718886,1242879168328830382,1977374033974150939,2944078676154940804,3659926193048069267,4368137639120453308,4836135668995329356,5532061633213252278,6448918945643986474,6902733635092675308,7801388544844847127]
def squaresS:List Int:=[7640891576956012808,13503953896175478587,4354685564936845355,11912009170470909681,5840696475078001361,11170449401992604703,2270897969802886507,6620516959819538809,14680500436340154072,7105036623409894663,10473403895298186519,1526699215303891257,7436329637833083697,10282925794625328401,15784041429090275239,5167115440072839076]
theorem K_xg{P:Program}{w:World}:∀ {laid:List (String×DataW Unit)} {ps:List MemPlace},DataW.LaidVars P w laid ps→∀ {name:String} {k:IntKind} {zs:List Int} {g:Nat} {t e:TypeId} {n:Nat},
  (name,Lib.tabData k zs)∈laid→P.globalNamed name=some g→(P.globals[g]?).map (·.type)=some t→P.underlying t=some (.array n e)→P.underlying e=some (.int k)→P.cellsOf e=1→P.cellsOf t=n→Lib.TabIs P w name k zs
 | [],_,_,_,_,_,_,_,_,_,hm,_,_,_,_,_,_=>by simp at hm
 | x :: rest,ps,h,name,k,zs,g,t,e,n,hm,hg,hty,ht,he,hce,hct=>by
  obtain⟨g',t',cs,fuel,p,q,hg',ht',hvar,hd,h2,_⟩:=h
  rcases List.mem_cons.1 hm with rfl | hm
  ·obtain rfl:=Option.some.inj (hg.symm.trans hg')
   obtain rfl:=Option.some.inj (hty.symm.trans ht')
   unfold Lib.TabIs
   rw[hvar,←Lib.cells_of_tab ht he hce hct hd]
  ·exact K_xg h2 hm hg hty ht he hce hct
theorem K_10q{P:Program}{w:World}{name:String}{zs:List Int}{g:Nat}(h:Lib.TabIs P w name .u64 zs)(hg:P.globalNamed name=some g):Rd w ⟨g,0,none⟩ (ints .u64 zs):=by
 intro i v hv
 rw[add_lit,Nat.zero_add]
 have hi:i<zs.length:=by have:=(List.getElem?_eq_some_iff.1 hv).1;simpa using this
 rw[h.cell hg i hi]
 simp only[ints,List.getElem?_map,J_ge hi]at hv
 rw[J_gd,J_ge hi]
 exact hv
theorem K_10f:∀ i,InK .u64 (squaresS.getD i 0):=by
 have h:∀ x∈squaresS,0≤x∧x<18446744073709551616:=by decide+kernel
 intro i
 rw[J_gd]
 cases hx:squaresS[i]? with
 | none=>exact⟨by decide,by decide⟩
 | some x=>exact h x (List.mem_of_getElem? hx)
def laid2:List (String×DataW Unit):=[("coffer/digest.cubes",Lib.tabData .u64 cubesC),("coffer/digest.squares",Lib.tabData .u64 squaresS)]
theorem tabs2{w:World}(h:laidMetH prog laid2 w):Tabs w cubesC squaresS:=by
 obtain⟨ps,h,_⟩:laidMet prog laid2 w:=h
 exact⟨rfl,rfl,K_10f,
  K_10q (K_xg h (name:="coffer/digest.cubes") (zs:=cubesC) (g:=3) (t:=175) (e:=149) (n:=80) (by simp[laid2]) (by kernel_rfl) (by kernel_rfl) (by kernel_rfl) (by kernel_rfl) (by kernel_rfl) (by kernel_rfl)) (by kernel_rfl),
  K_10q (K_xg h (name:="coffer/digest.squares") (zs:=squaresS) (g:=4) (t:=173) (e:=149) (n:=16) (by simp[laid2]) (by kernel_rfl) (by kernel_rfl) (by kernel_rfl) (by kernel_rfl) (by kernel_rfl) (by kernel_rfl)) (by kernel_rfl)⟩
end Go.Sh

set_option maxRecDepth 100000
namespace Go.Sh
open Go.Fw Go.Gf Go.Sha Go.RowKit Go.Proofs.Tryd
def checkL(C S:List Int)(set:Nat)(sec:List F):List F:=((digestOf 256 C (firstH S 256) (([b8 (set / 256),b8 set] ++ sec).map bF)).map toF).take 4
def rowP(C S:List Int)(set:Nat)(sec:List F):List F:=sec ++ checkL C S set sec
theorem K_169{D:List Int}(h:∀ x∈D,InK .u8 x):(D.map toF).map bF=D:=by
 rw[List.map_map]
 conv=>rhs;rw[←List.map_id D]
 exact List.map_congr_left fun x hx=>K_w3 (h x hx)
theorem fb_to{D:List Int}(h:∀ x∈D,InK .u8 x):fb (D.map toF)=ints .u8 D:=by unfold fb;rw[K_169 h]
theorem K_11q(l:List F):∀ x∈l.map bF,InK .u8 x:=fun x hx=>by obtain⟨a,_,rfl⟩:=List.mem_map.1 hx;exact bF_in a
theorem K_mc(C H0 xs:List Int):(digestOf 256 C H0 xs).length=32:=by
 unfold digestOf
 rw[List.length_take,K_da];rfl
theorem K_11z(C S:List Int)(set:Nat)(sec:List F):(checkL C S set sec).length=4:=by
 unfold checkL
 rw[List.length_take,List.length_map,K_mc];rfl
theorem K_tf(C S:List Int)(set:Nat)(sec:List F):(rowP C S set sec).length=sec.length+4:=by
 unfold rowP;rw[List.length_append,K_11z]
theorem K_zq{w w':World} {g n c:Nat} {ts:List Sl} {xss:List (List Int)} (ho:OwnS 23 w' ⟨some ⟨g,0,none⟩,n,c⟩ (ts.map slV)) (hne:ts≠[]) (hl:ts.length=xss.length) (hu:Upd none_ w w') (hg:g<w'.heap.size)
  (hin:∀ xs∈xss,∀ x∈xs,InK .u8 x) (hlen:∀ xs∈xss,xs.length≤140737488351232) (hm:xss.length*24≤140737488351232)
  (hs:∀ i,i<xss.length→Src w (ts.getD i nilS) (ints .u8 (xss.getD i []))∧∀ q,(ts.getD i nilS).a=some q→xss.getD i []≠[]→q.block<w.heap.size):
  Parts w' ⟨some ⟨g,0,none⟩,n,c⟩ xss fun k=>k<w'.heap.size:=by
 have h0:=ho.1
 have hn:n=xss.length:=by rw[List.length_map]at h0;exact(h0.symm.trans hl)
 have hsrc:=ho.src (fun v hv=>by obtain⟨x,_,rfl⟩:=List.mem_map.1 hv;rfl)
 refine⟨hn,ho.cap.1,hin,hlen,hm,.inr ⟨⟨g,0,none⟩,ts,rfl,hl,hg,?_,fun i hi=>?_⟩⟩
 ·rcases hsrc.rd with ⟨b1,_,_⟩ | ⟨q,b1,b2⟩
  ·cases b1
  ·obtain rfl:=Option.some.inj b1;exact b2
 ·obtain⟨a1,a2⟩:=hs i hi
  exact⟨a1.upd0 hu,fun q hq hne=>⟨Nat.lt_of_lt_of_le (a2 q hq hne) hu.size,Nat.lt_of_lt_of_le (a2 q hq hne) hu.size⟩⟩
theorem K_16i{s:Nat}:IntKind.u8.wrap (Int.fdiv (s:Int) (2 ^ 8))=bF (b8 (s / 256)):=by
 have:Int.fdiv (s:Int) (2 ^ 8)=((s / 256:Nat):Int):=K_g3 s 8
 rw[this,K_9c]
theorem K_11l{K:Nat}(hK:18446744073709551616≤K){w:World}{C S:List Int}(T:Tabs w C S){set:Nat}{sv:Sl}{sec:List F}(hs:BSrc w sv sec)(hl:sec.length≤1000):
  ∃ s' w',K_8d K (set:Int) sv w=some ((s',()),w')∧OwnS 5 w' s' (fb (rowP C S set sec))∧Upd none_ w w'∧Fresh w.heap.size s':=by
 obtain⟨w1,a1,a2,a3,a4⟩:=K_4b sliceB (fb [b8 (set / 256),b8 set]) (fun v hv=>by obtain⟨x,_,rfl⟩:=List.mem_map.1 hv;rfl) (by rw[K_0];simp) (by rw[K_0];simp) w
 have a1:bldS prog 23 2 #[(0,(.int .u8 (bF (b8 (set / 256))))),(1,(.int .u8 (bF (b8 set))))] w=some (⟨some ⟨w.heap.size,0,none⟩,2,2⟩,w1):=a1
 have a2:OwnS 5 w1 ⟨some ⟨w.heap.size,0,none⟩,2,2⟩ (fb [b8 (set / 256),b8 set]):=a2
 have hs1:=hs.upd0 a3
 have q1:=a3.size
 obtain⟨w2,b1,b2,b3,b4⟩:=K_4b sliceR ([⟨some ⟨w.heap.size,0,none⟩,2,2⟩,sv].map slV) (fun v hv=>by obtain⟨x,_,rfl⟩:=List.mem_map.1 hv;rfl) (by simp) (by simp) w1
 have b1:bldS prog 67 2 #[(0,(.slice (some ⟨w.heap.size,0,none⟩) 2 2)),(1,(.slice sv.a sv.len sv.cap))] w1=some (⟨some ⟨w1.heap.size,0,none⟩,2,2⟩,w2):=b1
 have hlt:=K_bu hs
 have hp:=K_zq (w:=w1) (xss:=[[b8 (set / 256),b8 set].map bF,sec.map bF]) b2 (by simp) rfl b3 (by omega) (fun xs hxs=>by
   simp only[List.mem_cons,List.not_mem_nil,or_false]at hxs
   rcases hxs with rfl | rfl
   ·exact K_11q _
   ·exact K_11q _) (fun xs hxs=>by
   simp only[List.mem_cons,List.not_mem_nil,or_false]at hxs
   rcases hxs with rfl | rfl
   ·rw[List.length_map];simp
   ·rw[List.length_map];omega) (by simp) (fun j hj=>by
   match j,hj with
   | 0,_=>exact⟨a2.src K_z,fun q hq _=>by obtain rfl:=Option.some.inj hq;show w.heap.size<_;omega⟩
   | 1,_=>exact⟨hs1,fun q hq hne=>by have:=hlt q hq (fun e=>hne (by show sec.map bF=[];rw[e];rfl));omega⟩)
 have hfl:([[b8 (set / 256),b8 set].map bF,sec.map bF]:List (List Int)).flatten=([b8 (set / 256),b8 set] ++ sec).map bF:=by simp
 obtain⟨d,w3,d1,d2,d3⟩:=K_165 hK known256 ((T.upd0 a3).upd0 b3) hp (fun _ hk=>hk) (by rw[hfl,List.length_map,List.length_append];show 2+sec.length≤_;omega)
 rw[hfl]at d2
 have d1:K_84 K 256 ⟨some ⟨w1.heap.size,0,none⟩,2,2⟩ w2=some ((d,0,()),w3):=d1
 have hdl:d.len=32:=by rw[d2.src.len,K_3,K_mc]
 have hdc:=d2.src.cap
 have u3:=(a3.and0 b3).and0 d3
 have ud:Upd none_ w w3.drew:=u3.drew
 obtain⟨s4,w4,e1,e2,e3,e4⟩:=K_h1 K (hs.upd0 ud) (by omega)
 have h4l:=e2.len
 rw[K_0]at h4l
 have hsd:Src w4 ⟨sla d.a 0 d.cap 1,4 - 0,d.cap - 0⟩ (fb (checkL C S set sec)):=by
  have h:=((d2.src.cut (n:=4) (by omega)).upd0 (Upd.refl none_ w3).drew).upd0 e3
  rw[←fb_to (K_xp 256 C _ _),K_g1]at h
  rw[sla_zero,Nat.sub_zero,Nat.sub_zero];exact h
 obtain⟨s5,w5,f1,f2,f3,f4,f5⟩:=K_34 sliceB e2 hsd (by show (s4.len+(4 - 0))*1≤_;omega)
 rw[←K_5v]at f3
 have q3:w.heap.size≤w3.drew.heap.size:=u3.size
 have q4:=e3.size
 have cc:(0:Int)≤4∧(4:Int)≤((d.cap:Nat):Int):=by omega
 refine⟨s5,w5,?_,f3,(ud.and0 e3).trans' f4 fun k hk e=>by have:=e4 k e;omega,fun k hk=>?_⟩
 ·unfold K_8d
  rw[K_16i,K_9c,a1,bnd_ok]
  dsimp only
  rw[b1,bnd_ok,d1,bnd_ok,if_pos cc,e1,bnd_ok,f1,bnd_ok]
 ·rcases f5 with e | e
  ·rw[e]at hk;have:=e4 k hk;omega
  ·rw[e]at hk;have e2:w4.heap.size=k:=Option.some.inj hk;omega
end Go.Sh

namespace Go.Sh
open Go.Fw Go.Gf Go.RowKit Go.Proofs.Tryd
theorem sliceL:OneSlice prog 96 98 .nilFunc 8:=⟨by kernel_rfl,⟨t98,by kernel_rfl,by kernel_rfl,by kernel_rfl,by kernel_rfl⟩,by decide,rfl,rfl⟩
def lnV(g:Nat):Value:=.func (.func 81) #[] #[.pointer (some ⟨g,0,none⟩)]
def LineAt(P:Nat→Prop)(w:World)(v:Value)(l:List F):Prop:=∃ g s,v=lnV g∧P g∧Bk 23 w g [slF s]∧BSrc w s l∧∀ q,s.a=some q→P q.block
theorem LineAt.upd{P Q X:Nat→Prop}{w w':World}{v:Value}{l:List F}(h:LineAt P w v l)(u:Upd X w w')(hn:∀ k,P k→¬X k)(hq:∀ k,P k→Q k):LineAt Q w' v l:=by
 obtain⟨g,s,a,b,c,d,e⟩:=h
 exact⟨g,s,a,hq g b,c.upd u (hn g b),Fw.Src.upd d u fun q hq=>hn _ (e q hq),fun q hx=>hq _ (e q hx)⟩
theorem LineAt.upd0{P:Nat→Prop}{w w':World}{v:Value}{l:List F}(h:LineAt P w v l)(u:Upd none_ w w'):LineAt P w' v l:=h.upd u (fun _ _=>id) fun _=>id
theorem K_13v{K:Nat}(hK:300≤K){g:Nat}{s:Sl}{l:List F}(hl:l.length≤100000)(x:F):
  ∀ (i m:Nat) (w:World),i≤l.length→i<m→Bk 23 w g [slF s]→BSrc w s l→
   ∃ w',K_18 K m (bF x) (some ⟨g,0,none⟩) (bF (ev (l.drop i) x)) ((i:Int) - 1) w=some ((bF (ev l x),()),w')∧Upd none_ w w':=by
 intro i
 induction i with
 | zero=>
  intro m w hi hm hb hs
  obtain⟨m,rfl⟩:∃ q,m=q+1:=⟨m - 1,by omega⟩
  refine⟨w,?_,Upd.refl _ _⟩
  show K_35 K (K_18 K m) (bF x) (some ⟨g,0,none⟩) (bF (ev (l.drop 0) x)) (((0:Nat):Int) - 1) w=_
  unfold K_35
  rw[if_neg (by decide),List.drop_zero]
 | succ i ih=>
  intro m w hi hm hb hs
  obtain⟨m,rfl⟩:∃ q,m=q+1:=⟨m - 1,by omega⟩
  have hsl:s.len=l.length:=by rw[hs.len,K_0]
  have ud:=(Upd.refl none_ w).drew
  obtain⟨p,p1,p2⟩:=K_2b (hs.upd0 ud) (i:=i) (by omega)
  have hld:ldS ⟨g,0,none⟩ w.drew=some s:=(hb.upd0 ud).ldS (i:=0) (a:=s.a) (l:=s.len) (c:=s.cap) rfl
  obtain⟨w',k1,k2⟩:=ih m w.drew (by omega) (by omega) (hb.upd0 ud) (hs.upd0 ud)
  have e0:((i+1:Nat):Int) - 1=(i:Int):=by omega
  have e1:IntKind.i64.wrap ((i:Int) - 1)=(i:Int) - 1:=w64 (by omega) (by omega)
  have ee:ev (l.drop (i+1)) x*x+l[i]'(by omega)=ev (l.drop i) x:=by
   rw[List.drop_eq_getElem_cons (show i<l.length by omega),K_4a,F.add_comm,F.mul_comm]
  have c1:(0:Int)≤(i:Int)∧(i:Int)<((s.len:Nat):Int):=by omega
  refine⟨w',?_,k2.predrew⟩
  show K_35 K (K_18 K m) (bF x) (some ⟨g,0,none⟩) (bF (ev (l.drop (i+1)) x)) (((i+1:Nat):Int) - 1) w=_
  unfold K_35
  rw[e0,if_pos (decide_eq_true (show (i:Int)≥0 by omega)),tm hK,J_bs,J_bs,hld,J_bs,p1,J_bs,if_pos c1,J_tn,Nat.mul_one,p2,J_bs,addF,ee,e1]
  exact k1
theorem K_13o{β:Type}{K:Nat}(hK:18446744073709551616≤K){P:Nat→Prop}{w:World}{v:Value}{l:List F}(h:LineAt P w v l)(hl:l.length≤100000)(x:F):
  ∃ w',(∀ k:Value→World→Option β,dyn (tab (K_aj K)) v [.int .u8 (bF x)] w k=k (.int .u8 (bF (ev l x))) w')∧Upd none_ w w':=by
 obtain⟨g,s,rfl,_,hb,hs,_⟩:=h
 have hsl:s.len=l.length:=by rw[hs.len,K_0]
 have hld:ldS ⟨g,0,none⟩ w=some s:=hb.ldS (i:=0) (a:=s.a) (l:=s.len) (c:=s.cap) rfl
 obtain⟨w',k1,k2⟩:=K_13v (K:=K) (by omega) hl x l.length K w (Nat.le_refl _) (by omega) hb hs
 rw[List.drop_length]at k1
 have k1:K_18 K K (bF x) (some ⟨g,0,none⟩) 0 ((l.length:Int) - 1) w=_:=k1
 have hc:K_46 K (bF x) (some ⟨g,0,none⟩) w=some ((bF (ev l x),()),w'):=by
  unfold K_46
  rw[J_bs,hld,J_bs,hsl,w64 (by omega) (by omega),k1,bnd_ok]
 refine⟨w',fun k=>?_,k2⟩
 have e:∀ (y:Int) (p:Option Addr),dyn (tab (K_aj K)) (.func (.func 81) #[] #[.pointer p]) [.int .u8 y] w k=bnd (K_46 K y p w) fun r w2=>k (.int .u8 r.1) w2:=fun _ _=>rfl
 show dyn (tab (K_aj K)) (.func (.func 81) #[] #[.pointer (some ⟨g,0,none⟩)]) [.int .u8 (bF x)] w k=_
 rw[e,hc,bnd_ok]
def LinesAt(P:Nat→Prop)(w:World)(s:Sl)(rows:List (List F)):Prop:=
 ∃ vs,Src w s vs∧vs.length=rows.length∧(∀ q,s.a=some q→P q.block)∧∀ i,i<rows.length→LineAt P w (vs.getD i .nilFunc) (rows.getD i [])
theorem LinesAt.upd{P X:Nat→Prop}{w w':World}{s:Sl}{rows:List (List F)}(h:LinesAt P w s rows)(u:Upd X w w')(hn:∀ k,P k→¬X k):LinesAt P w' s rows:=by
 obtain⟨vs,a,b,c,d⟩:=h
 exact⟨vs,Fw.Src.upd a u fun q hq=>hn _ (c q hq),b,c,fun i hi=>(d i hi).upd u hn fun _=>id⟩
theorem LinesAt.upd0{P:Nat→Prop}{w w':World}{s:Sl}{rows:List (List F)}(h:LinesAt P w s rows)(u:Upd none_ w w'):LinesAt P w' s rows:=h.upd u fun _ _=>id
theorem LinesAt.len{P:Nat→Prop}{w:World}{s:Sl}{rows:List (List F)}(h:LinesAt P w s rows):s.len=rows.length:=by
 obtain⟨vs,a,b,c,d⟩:=h
 rw[a.len,b]
theorem LinesAt.ld{P:Nat→Prop}{w:World}{s:Sl}{rows:List (List F)}(h:LinesAt P w s rows){i:Nat}(hi:i<rows.length):∃ p v,s.a=some p∧ldV (p.add i) w=some v∧LineAt P w v (rows.getD i []):=by
 obtain⟨vs,a,b,c,d⟩:=h
 rcases a.rd with ⟨_,_,e⟩ | ⟨p,e1,e2⟩
 ·rw[e]at b;have b:0=rows.length:=b;omega
 ·refine⟨p,vs.getD i .nilFunc,e1,?_,d i hi⟩
  have hv:vs[i]? =some (vs.getD i .nilFunc):=by
   rw[J_gd,J_ge (by omega)];rfl
  exact e2 i _ hv
def valsAt(rows:List (List F))(x:F):List F:=rows.map fun c=>ev c x
theorem K_59(rows:List (List F))(x:F):(valsAt rows x).length=rows.length:=List.length_map ..
theorem K_151{K:Nat}(hK:18446744073709551616≤K){P:Nat→Prop}{ls:Sl}{rows:List (List F)}(hr:rows.length≤1000000)(hc:∀ c∈rows,c.length≤100000){x:Nat}{B:Nat}(hP:∀ k,P k→k<B):
  ∀ (d i m:Nat) (w:World) (s:Sl),i+d=rows.length→d<m→B≤w.heap.size→LinesAt P w ls rows→OwnS 5 w s (fb (valsAt (rows.take i) (b8 x)))→(∀ k,s.blk=some k→B≤k)→
   ∃ s' w',K_4f K m (x:Int) s ls ((rows.length:Nat):Int) (i:Int) w=some ((s',()),w')∧OwnS 5 w' s' (fb (valsAt rows (b8 x)))∧Upd (fun k=>s.blk=some k) w w'∧∀ k,s'.blk=some k→s.blk=some k∨w.heap.size≤k:=by
 intro d
 induction d with
 | zero=>
  intro i m w s hi hm hB hL ho hs
  obtain⟨m,rfl⟩:∃ q,m=q+1:=⟨m - 1,by omega⟩
  rw[List.take_of_length_le (by omega)]at ho
  refine⟨s,w,?_,ho,Upd.refl _ _,fun k hk=>.inl hk⟩
  show K_7w K (K_4f K m) (x:Int) s ls ((rows.length:Nat):Int) (i:Int) w=_
  unfold K_7w
  rw[if_neg (by simp only[decide_eq_true_eq];omega)]
 | succ d ih=>
  intro i m w s hi hm hB hL ho hs
  obtain⟨m,rfl⟩:∃ q,m=q+1:=⟨m - 1,by omega⟩
  have hil:i<rows.length:=by omega
  have hlen:=hL.len
  have e3:IntKind.i64.wrap ((i:Int)+1)=((i+1:Nat):Int):=by rw[w64 (by omega) (by omega)];rfl
  obtain⟨p,v,p1,p2,p3⟩:=hL.ld hil
  have hcl:(rows.getD i []).length≤100000:=by
   rw[J_gd,J_ge hil]
   exact hc _ (List.getElem_mem hil)
  obtain⟨w1,q1,q2⟩:=K_13o (β:=(Sl×Unit)×World) hK p3 hcl (b8 x)
  obtain⟨w2,s2,w3,a1,a2,a3,a4,a5⟩:=K_p7 (ho.upd0 q2) (by rw[K_59,List.length_take];omega) (ev (rows.getD i []) (b8 x))
  have et:valsAt (rows.take i) (b8 x) ++ [ev (rows.getD i []) (b8 x)]=valsAt (rows.take (i+1)) (b8 x):=by
   rw[List.take_succ_eq_append_getElem hil,J_gd,J_ge hil]
   unfold valsAt
   rw[List.map_append];rfl
  rw[et]at a3
  have u:=(q2.mono (T:=fun k=>s.blk=some k) fun _ _ e=>e.elim).trans' a4 fun _ _ e=>e
  have z1:=q2.size
  have z2:=u.size
  obtain⟨s4,w4,b1,b2,b3,b4⟩:=ih (i+1) m w3 s2 (by omega) (by omega) (by omega) (hL.upd u fun k hk e=>by have:=hP k hk;have:=hs k e;omega) a3 (fun k hk=>(a5 k hk).elim (hs k) fun e=>by omega)
  have c1:(0:Int)≤(i:Int)∧(i:Int)<((ls.len:Nat):Int):=by omega
  refine⟨s4,w4,?_,b2,u.trans' b3 (fun k hk e=>(a5 k e).elim id fun e2=>absurd hk (by omega)),fun k hk=>(b4 k hk).elim (fun e=>(a5 k e).imp id fun e2=>by omega) fun e=>.inr (by omega)⟩
  show K_7w K (K_4f K m) (x:Int) s ls ((rows.length:Nat):Int) (i:Int) w=_
  unfold K_7w
  rw[if_pos (decide_eq_true (show (i:Int)<((rows.length:Nat):Int) by omega)),p1,J_bs,if_pos c1,J_tn,Nat.mul_one,p2,J_bs,K_9c,q1,K_dn,J_bs,a1,bnd_ok]
  dsimp only
  rw[a2,bnd_ok,e3]
  exact b1
theorem at_ok{K:Nat}(hK:18446744073709551616≤K){P:Nat→Prop}{ls:Sl}{rows:List (List F)}(hr:rows.length≤1000000)(hc:∀ c∈rows,c.length≤100000)(x:Nat){w:World}(hP:∀ k,P k→k<w.heap.size)(hL:LinesAt P w ls rows):
  ∃ s' w',K_b5 K ls (x:Int) w=some ((s',()),w')∧OwnS 5 w' s' (fb (valsAt rows (b8 x)))∧Upd none_ w w'∧Fresh w.heap.size s':=by
 have hlen:=hL.len
 obtain⟨s',w',a1,a2,a3,a4⟩:=K_151 hK hr hc (x:=x) hP rows.length 0 K w ⟨none,0,0⟩ (by omega) (by omega) (Nat.le_refl _) hL (OwnS.nil _ _) (fun k hk=>by cases hk)
 have a1:K_4f K K (x:Int) ⟨none,0,0⟩ ls ((rows.length:Nat):Int) 0 w=_:=a1
 refine⟨s',w',?_,a2,a3.mono (fun j _ e=>by cases e),fun j hj=>(a4 j hj).elim (fun e=>by cases e) id⟩
 unfold K_b5
 rw[hlen,a1,bnd_ok]
end Go.Sh

namespace Go.Sh
open Go.Fw Go.Gf Go.RowKit Go.Proofs.Tryd
def colL(R:List F)(n i k:Nat):List F:=(List.range k).map fun j=>R.getD (j*n+i) 0
def lineC(row R:List F)(need i:Nat):List F:=row.getD i 0 :: colL R row.length i (need - 1)
def linesC(row R:List F)(need:Nat):List (List F):=(List.range row.length).map (lineC row R need)
def dealN(set need size:Nat)(rows:List (List F))(x:Nat):List ByteArray:=(List.range x).map fun i=>textOf (lineL set need (i+1) size (valsAt rows (b8 (i+1))))
theorem K_125(R:List F)(n i k:Nat):colL R n i (k+1)=colL R n i k ++ [R.getD (k*n+i) 0]:=by simp[colL,List.range_succ]
theorem K_qj(R:List F)(n i k:Nat):(colL R n i k).length=k:=by simp[colL]
theorem K_zd(set need size:Nat)(rows:List (List F))(x:Nat):dealN set need size rows (x+1)=dealN set need size rows x ++ [textOf (lineL set need (x+1) size (valsAt rows (b8 (x+1))))]:=by simp[dealN,List.range_succ]
theorem K_7s(set need size:Nat)(rows:List (List F))(x:Nat):(dealN set need size rows x).length=x:=by simp[dealN]
theorem K_58(row R:List F)(need:Nat):(linesC row R need).length=row.length:=by simp[linesC]
theorem K_s5(row R:List F)(need i:Nat)(hi:i<row.length):(linesC row R need).getD i []=lineC row R need i:=by
 unfold linesC
 rw[J_gd,List.getElem?_map,List.getElem?_range hi];rfl
theorem K_m8(row R:List F)(need:Nat):∀ c∈linesC row R need,c.length=need - 1+1:=fun c hc=>by
 unfold linesC at hc
 obtain⟨i,_,rfl⟩:=List.mem_map.1 hc
 unfold lineC
 rw[List.length_cons,K_qj]
theorem K_15b{j c n i:Nat}(hj:j<c)(hi:i<n):j*n+i<c*n:=by
 have:(j+1)*n≤c*n:=Nat.mul_le_mul_right n hj
 rw[Nat.add_mul,Nat.one_mul]at this
 omega
theorem K_14x{K:Nat}{set need count a39 a40:Int}{sec rnd t13 lines a38:Sl}{R:List F}{n i c B:Nat}{t:F}(hi:i<n)(hR:R.length=c*n)(hsm:R.length≤1000000)(hc:c≤100)(ht:t13.len=n)(hrb:∀ q,rnd.a=some q→R≠[]→q.block<B):
  ∀ (d j m:Nat) (w:World) (s:Sl),j+d=c→d<m→B≤w.heap.size→BSrc w rnd R→OwnS 5 w s (fb (t :: colL R n i j))→(∀ k,s.blk=some k→B≤k)→
   ∃ s' w',K_38 K m set sec need count rnd t13 lines (i:Int) s a38 a39 a40 (c:Int) (j:Int) w=some ((s',()),w')∧OwnS 5 w' s' (fb (t :: colL R n i c))∧Upd (fun k=>s.blk=some k) w w'∧∀ k,s'.blk=some k→s.blk=some k∨w.heap.size≤k:=by
 intro d
 induction d with
 | zero=>
  intro j m w s hj hm hB hr ho hs
  obtain⟨m,rfl⟩:∃ q,m=q+1:=⟨m - 1,by omega⟩
  obtain rfl:j=c:=by omega
  refine⟨s,w,?_,ho,Upd.refl _ _,fun k hk=>.inl hk⟩
  show K_68 K (K_38 K m) set sec need count rnd t13 lines (i:Int) s a38 a39 a40 (j:Int) (j:Int) w=_
  unfold K_68
  rw[if_neg (by simp)]
 | succ d ih=>
  intro j m w s hj hm hB hr ho hs
  obtain⟨m,rfl⟩:∃ q,m=q+1:=⟨m - 1,by omega⟩
  have hrl:rnd.len=R.length:=by rw[hr.len,K_0]
  have e3:IntKind.i64.wrap ((j:Int)+1)=((j+1:Nat):Int):=by rw[w64 (by omega) (by omega)];rfl
  have hx:=K_15b (j:=j) (c:=c) (by omega) hi
  obtain⟨x,hxe⟩:∃ x,x=j*n:=⟨_,rfl⟩
  have e4:IntKind.i64.wrap ((j:Int)*((t13.len:Nat):Int))=(x:Int):=by rw[ht,←Int.natCast_mul,←hxe,w64 (by omega) (by omega)]
  have e5:IntKind.i64.wrap ((x:Int)+(i:Int))=((x+i:Nat):Int):=by rw[w64 (by omega) (by omega)];rfl
  rw[←hxe]at hx
  have hxR:x+i<R.length:=by omega
  obtain⟨p,p1,p2⟩:=K_2b hr hxR
  have hgd:R[x+i]=R.getD (j*n+i) 0:=by rw[←hxe,J_gd,J_ge hxR];rfl
  rw[hgd]at p2
  obtain⟨w1,s2,w2,a1,a2,a3,a4,a5⟩:=K_p7 ho (by rw[List.length_cons,K_qj];omega) (R.getD (j*n+i) 0)
  rw[List.cons_append,←K_125]at a3
  have z:=a4.size
  obtain⟨s3,w3,b1,b2,b3,b4⟩:=ih (j+1) m w2 s2 (by omega) (by omega) (by omega) (K_3r hr a4 fun q hq hne e=>by have:=hrb q hq hne;have:=hs _ e;omega) a3 (fun k hk=>(a5 k hk).elim (hs k) fun e=>by omega)
  have c1:(0:Int)≤((x+i:Nat):Int)∧((x+i:Nat):Int)<((rnd.len:Nat):Int):=by omega
  refine⟨s3,w3,?_,b2,a4.trans' b3 (fun k hk e=>(a5 k e).elim id fun e2=>absurd hk (by omega)),fun k hk=>(b4 k hk).elim (a5 k) fun e=>.inr (by omega)⟩
  show K_68 K (K_38 K m) set sec need count rnd t13 lines (i:Int) s a38 a39 a40 (c:Int) (j:Int) w=_
  unfold K_68
  rw[if_pos (decide_eq_true (show (j:Int)<(c:Int) by omega)),p1,J_bs,e4,e5,if_pos c1,J_tn,Nat.mul_one,p2,J_bs,a1,bnd_ok]
  dsimp only
  rw[a2,bnd_ok,e3]
  exact b1
theorem K_15q{w:World}{s:Sl}{vs:List Value}(ho:OwnS 98 w s vs)(hl:vs.length≤1000000)(g:Nat):
  ∃ w1 s' w',bldS prog 96 1 #[(0,lnV g)] w=some (⟨some ⟨w.heap.size,0,none⟩,1,1⟩,w1)∧apd prog 96 96 (.slice s.a s.len s.cap) (.slice (some ⟨w.heap.size,0,none⟩) 1 1) w1=some (s',w')∧OwnS 98 w' s' (vs ++ [lnV g])∧Upd (fun k=>s.blk=some k) w w'∧∀ k,s'.blk=some k→s.blk=some k∨w.heap.size≤k:=by
 obtain⟨w1,a1,a2,a3,a4⟩:=K_57 sliceL (lnV g) rfl w
 have hpl:=ho.len
 obtain⟨s2,w2,b1,b2,b3,b4,b5⟩:=K_34 sliceL (ho.upd0 a3) (a2.src fun v hv=>by rw[List.mem_singleton.1 hv];rfl) (by show (s.len+1)*8≤_;omega)
 have q1:=a3.size
 refine⟨w1,s2,w2,a1,b1,b3,(a3.mono (T:=fun k=>s.blk=some k) fun _ _ e=>e.elim).trans' b4 fun _ _ e=>e,fun k hk=>?_⟩
 rcases b5 with e | e
 ·rw[e]at hk;exact .inl hk
 ·rw[e]at hk;have e2:w1.heap.size=k:=Option.some.inj hk;exact .inr (by omega)
theorem K_14c{K:Nat}(hK:18446744073709551616≤K){set count:Int}{sec rnd rs:Sl}{row R:List F}{need B:Nat}(hn1:1≤need)(hn:need≤16)(hR:R.length=(need - 1)*row.length)(hsm:row.length≤1000)(hrb:∀ q,rnd.a=some q→R≠[]→q.block<B)(hsb:∀ q,rs.a=some q→row≠[]→q.block<B):
  ∀ (d i m:Nat) (w:World) (ls:Sl) (vs:List Value),i+d=row.length→d<m→B≤w.heap.size→BSrc w rnd R→BSrc w rs row→OwnS 98 w ls vs→vs.length=i→(∀ k,ls.blk=some k→B≤k)→
   (∀ j,j<i→LineAt (fun k=>B≤k∧ls.blk≠some k∧k<w.heap.size) w (vs.getD j .nilFunc) (lineC row R need j))→
   ∃ ls' w',K_2x K m set sec (need:Int) count rnd rs ls rs ((row.length:Nat):Int) (i:Int) w=some ((ls',()),w')∧LinesAt (fun k=>B≤k∧k<w'.heap.size) w' ls' (linesC row R need)∧Upd (fun k=>ls.blk=some k) w w':=by
 have hRs:R.length≤15*1000:=by rw[hR];exact Nat.mul_le_mul (by omega) hsm
 intro d
 induction d with
 | zero=>
  intro i m w ls vs hi hm hB hr hw ho hv hb hL
  obtain⟨m,rfl⟩:∃ q,m=q+1:=⟨m - 1,by omega⟩
  refine⟨ls,w,?_,⟨vs,ho.src fun v hv2=>?_,by rw[K_58];omega,fun q hq=>⟨hb _ (by simp[Sl.blk,hq]),K_ci ho q hq⟩,fun j hj=>?_⟩,Upd.refl _ _⟩
  ·show K_67 K (K_2x K m) set sec (need:Int) count rnd rs ls rs ((row.length:Nat):Int) (i:Int) w=_
   unfold K_67
   rw[if_neg (by simp only[decide_eq_true_eq];omega)]
  ·obtain⟨j,hj,rfl⟩:=List.mem_iff_getElem.1 hv2
   obtain⟨g,s,e,_⟩:=hL j (by omega)
   rw[J_gd,J_ge hj]at e
   have e:vs[j]=lnV g:=e
   rw[e];rfl
  ·rw[K_58]at hj
   rw[K_s5 _ _ _ _ hj]
   exact(hL j (by omega)).upd (Upd.refl none_ w) (fun _ _=>id) fun k hk=>⟨hk.1,hk.2.2⟩
 | succ d ih=>
  intro i m w ls vs hi hm hB hr hw ho hv hb hL
  obtain⟨m,rfl⟩:∃ q,m=q+1:=⟨m - 1,by omega⟩
  have hil:i<row.length:=by omega
  have hsl:rs.len=row.length:=by rw[hw.len,K_0]
  have e3:IntKind.i64.wrap ((i:Int)+1)=((i+1:Nat):Int):=by rw[w64 (by omega) (by omega)];rfl
  have e4:IntKind.i64.wrap ((need:Int) - 1)=((need - 1:Nat):Int):=by rw[w64 (by omega) (by omega)];omega
  obtain⟨p,p1,p2⟩:=K_2b hw hil
  have hgd:row[i]=row.getD i 0:=by rw[J_gd,J_ge hil];rfl
  rw[hgd]at p2
  obtain⟨w1,a1,a2,a3,a4⟩:=K_57 sliceB (.int .u8 (bF (row.getD i 0))) rfl w
  have a2:OwnS 5 w1 ⟨some ⟨w.heap.size,0,none⟩,1,1⟩ (fb (row.getD i 0 :: colL R row.length i 0)):=a2
  have z1:=a3.size
  obtain⟨s2,w2,b1,b2,b3,b4⟩:=K_14x (K:=K) (set:=set) (need:=(need:Int)) (count:=count) (a39:=((row.length:Nat):Int)) (a40:=(i:Int)) (sec:=sec) (t13:=rs) (lines:=ls) (a38:=rs) (t:=row.getD i 0) hil hR (by omega) (by omega) hsl hrb (need - 1) 0 K w1 _ (by omega) (by omega) (by omega) (hr.upd0 a3) a2 (fun k hk=>by have e:w.heap.size=k:=Option.some.inj hk;omega)
  have hs2:∀ k,s2.blk=some k→w.heap.size≤k:=fun k hk=>(b4 k hk).elim (fun e=>by have e:w.heap.size=k:=Option.some.inj e;omega) fun e=>by omega
  have u2:Upd none_ w w2:=a3.trans' b3 fun k hk e=>by have e:w.heap.size=k:=Option.some.inj e;omega
  have z2:=b3.size
  obtain⟨w3,c1,c2,c3,c4⟩:=K_g #[slF s2] 23 w2
  have c2:Bk 23 w3 w2.heap.size [slF s2]:=c2
  have z3:=c3.size
  have u3:Upd none_ w w3:=u2.and0 c3
  have hth:K_60 s2 w2=some ((lnV w2.heap.size,()),w3):=by
   unfold K_60
   have c1:newB #[(.slice s2.a s2.len s2.cap)] 23 w2=_:=c1
   rw[c1,bnd_ok];rfl
  obtain⟨w4,s5,w5,d1,d2,d3,d4,d5⟩:=K_15q (ho.upd0 u3) (by omega) w2.heap.size
  have z5:=d4.size
  have u5:Upd (fun k=>ls.blk=some k) w w5:=(u3.mono (T:=fun k=>ls.blk=some k) fun _ _ e=>e.elim).trans' d4 fun _ _ e=>e
  have hnew:∀ k,w.heap.size≤k→k<w3.heap.size→s5.blk≠some k:=fun k h1 h2 e=>(d5 k e).elim (fun e=>by have:=ho.lt e;omega) fun e=>by omega
  have hold:∀ k,k<w.heap.size→ls.blk≠some k→s5.blk≠some k:=fun k h1 h2 e=>(d5 k e).elim h2 fun e=>by omega
  have hline:LineAt (fun k=>B≤k∧s5.blk≠some k∧k<w5.heap.size) w5 (lnV w2.heap.size) (lineC row R need i):=by
   have hx:LineAt (fun k=>w.heap.size≤k∧k<w3.heap.size) w3 (lnV w2.heap.size) (lineC row R need i):=
    ⟨w2.heap.size,s2,rfl,⟨by omega,by omega⟩,c2,(b2.upd0 c3).src (K_14 _),fun q hq=>⟨hs2 _ (by simp[Sl.blk,hq]),by have:=K_ci b2 q hq;omega⟩⟩
   exact hx.upd d4 (fun k hk e=>by have:=ho.lt e;omega) fun k hk=>⟨by omega,hnew k hk.1 hk.2,by omega⟩
  obtain⟨ls',w',k1,k2,k3⟩:=ih (i+1) m w5 s5 (vs ++ [lnV w2.heap.size]) (by omega) (by omega) (by omega)
   (K_3r hr u5 fun q hq hne e=>by have:=hrb q hq hne;have:=hb _ e;omega) (K_3r hw u5 fun q hq hne e=>by have:=hsb q hq hne;have:=hb _ e;omega)
   d3 (by rw[List.length_append,hv];rfl) (fun k hk=>(d5 k hk).elim (hb k) fun e=>by omega)
   (fun j hj=>by
    by_cases e:j<i
    ·have:(vs ++ [lnV w2.heap.size]).getD j .nilFunc=vs.getD j .nilFunc:=by
      rw[J_gd,List.getElem?_append_left (by omega),J_gd]
     rw[this]
     exact(hL j e).upd u5 (fun k hk=>hk.2.1) fun k hk=>⟨hk.1,hold k hk.2.2 hk.2.1,by omega⟩
    ·obtain rfl:j=i:=by omega
     have:(vs ++ [lnV w2.heap.size]).getD j .nilFunc=lnV w2.heap.size:=by
      rw[J_gd,List.getElem?_append_right (by omega),hv,Nat.sub_self];rfl
     rw[this]
     exact hline)
  have c1':(0:Int)≤(i:Int)∧(i:Int)<((rs.len:Nat):Int):=by omega
  refine⟨ls',w',?_,k2,u5.trans' k3 fun k hk e=>(d5 k e).elim id fun e2=>absurd hk (by omega)⟩
  show K_67 K (K_2x K m) set sec (need:Int) count rnd rs ls rs ((row.length:Nat):Int) (i:Int) w=_
  unfold K_67
  have b1:K_38 K K set sec (need:Int) count rnd rs ls (i:Int) ⟨some ⟨w.heap.size,0,none⟩,1,1⟩ rs ((row.length:Nat):Int) (i:Int) ((need - 1:Nat):Int) 0 w1=_:=b1
  rw[if_pos (decide_eq_true (show (i:Int)<((row.length:Nat):Int) by omega)),p1,J_bs,if_pos c1',J_tn,Nat.mul_one,p2,J_bs,a1,bnd_ok,e4,b1,bnd_ok]
  dsimp only
  rw[hth,bnd_ok]
  dsimp only
  rw[d1,bnd_ok]
  dsimp only
  rw[d2,bnd_ok,e3]
  exact k1
theorem built102v(a b c d:Int)(s:Sl):prog.built 102 [(0,(.agg #[.int .u16 a,.int .i64 b,.int .i64 c,.int .i64 d])),(1,(.slice s.a s.len s.cap))]=some #[.int .u16 a,.int .i64 b,.int .i64 c,.int .i64 d,.slice s.a s.len s.cap]:=by
 obtain⟨x,y,z⟩:=s;kernel_rfl
theorem K_157{K:Nat}(hK:18446744073709551616≤K){set need count size:Nat}(hset:set<65536)(hcount:count≤255){sec ls:Sl}(hsz:sec.len=size){rows:List (List F)}(hr:rows.length≤1000)(hc:∀ c∈rows,c.length≤100000){P:Nat→Prop}{B:Nat}(hP:∀ k,P k→k<B):
  ∀ (d x m:Nat) (w:World) (out:Sl),x+d=count→d<m→B≤w.heap.size→LinesAt P w ls rows→OwnS 9 w out (tx (dealN set need size rows x))→(∀ k,out.blk=some k→B≤k)→
   ∃ out' w',K_2y K m (set:Int) sec (need:Int) (count:Int) ls out ((x+1:Nat):Int) w=some ((out',()),w')∧OwnS 9 w' out' (tx (dealN set need size rows count))∧Upd (fun k=>out.blk=some k) w w'∧∀ k,out'.blk=some k→out.blk=some k∨w.heap.size≤k:=by
 intro d
 induction d with
 | zero=>
  intro x m w out hx hm hB hL ho hb
  obtain⟨m,rfl⟩:∃ q,m=q+1:=⟨m - 1,by omega⟩
  obtain rfl:x=count:=by omega
  refine⟨out,w,?_,ho,Upd.refl _ _,fun k hk=>.inl hk⟩
  show K_65 K (K_2y K m) (set:Int) sec (need:Int) (x:Int) ls out ((x+1:Nat):Int) w=_
  unfold K_65
  rw[if_neg (by simp only[decide_eq_true_eq];omega)]
 | succ d ih=>
  intro x m w out hx hm hB hL ho hb
  obtain⟨m,rfl⟩:∃ q,m=q+1:=⟨m - 1,by omega⟩
  have e3:IntKind.i64.wrap (((x+1:Nat):Int)+1)=((x+1+1:Nat):Int):=by rw[w64 (by omega) (by omega)];rfl
  obtain⟨s1,w1,a1,a2,a3,a4⟩:=at_ok hK (by omega) hc (x+1) (fun k hk=>by have:=hP k hk;omega) hL
  obtain⟨w2,b1,b2⟩:=K_15s hK (s:=set) (n:=need) (i:=x+1) (z:=size) hset (a2.src (K_14 _)) (by rw[K_59];omega)
  have b1:K_2c K #[.int .u16 (set:Int),.int .i64 (need:Int),.int .i64 ((x+1:Nat):Int),.int .i64 (size:Int),.slice s1.a s1.len s1.cap] w1=_:=b1
  have u2:=a3.and0 b2
  obtain⟨w3,s4,w4,c1,c2,c3,c4,c5⟩:=K_153 (ho.upd0 u2) (by rw[K_7s];omega) (textOf (lineL set need (x+1) size (valsAt rows (b8 (x+1)))))
  rw[←K_zd]at c3
  have u4:Upd (fun k=>out.blk=some k) w w4:=(u2.mono (T:=fun k=>out.blk=some k) fun _ _ e=>e.elim).trans' c4 fun _ _ e=>e
  have z:=u4.size
  have z2:=u2.size
  obtain⟨o5,w5,d1,d2,d3,d4⟩:=ih (x+1) m w4 s4 (by omega) (by omega) (by omega) (hL.upd u4 fun k hk e=>by have:=hP k hk;have:=hb k e;omega) c3 (fun k hk=>(c5 k hk).elim (hb k) fun e=>by omega)
  refine⟨o5,w5,?_,d2,u4.trans' d3 (fun k hk e=>(c5 k e).elim id fun e2=>absurd hk (by omega)),fun k hk=>(d4 k hk).elim (fun e=>(c5 k e).imp id fun e2=>by omega) fun e=>.inr (by omega)⟩
  show K_65 K (K_2y K m) (set:Int) sec (need:Int) (count:Int) ls out ((x+1:Nat):Int) w=_
  unfold K_65
  rw[if_pos (decide_eq_true (show ((x+1:Nat):Int)≤(count:Int) by omega)),hsz,built84,J_bs,a1,bnd_ok]
  dsimp only
  rw[built102v,J_bs,b1,bnd_ok]
  dsimp only
  rw[c1,bnd_ok]
  dsimp only
  rw[c2,bnd_ok,e3]
  exact d1
end Go.Sh

namespace Go.Sh
open Go.Fw Go.Gf Go.RowKit Go.Proofs.Tryd
end Go.Sh
