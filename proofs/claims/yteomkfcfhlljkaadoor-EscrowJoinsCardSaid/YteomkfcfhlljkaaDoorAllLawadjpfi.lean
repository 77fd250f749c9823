/- Texts of this claim, put together: RefSum, Lent, Sums, Open, Laid, EscX, EscY, EscZ, EscZa, EscZb, EscZi, EscZe, EscZf, EscZg, EscZh, EscZj, EscZk, EscJa, EscJb, EscJc, EscJd, FwMap, EscJe, EscJf, EscJg, EscJh, EscJi, EscJj, EscJk, EscJl, EscJm -/
import Derived.Test.YteomkfcfhlljkaaDoorAllShkogldk
import Derived.Test.YteomkfcfhlljkaaDoorAllLawhpoabh
import Derived.Test.YteomkfcfhlljkaaDoorAllFwbgdbhh
import Derived.Deep.Matrix
import Derived.SizedLaws
import Derived.Handed
import Derived.Test.YteomkfcfhlljkaaDoorRows
import Derived.Lib.LaidTab
import Derived.Test.YteomkfcfhlljkaaDoorAllLawkobmpe
import Derived.MapKept
set_option linter.unusedVariables false
namespace Go.Sh
open Go.Fw Go.Sha Go.RowKit Go.Proofs.Tryd
theorem K_1bb{b len j:Nat}(hb:b=64∨b=128)(hj:j≤padZ b (b / 8) len):(len+1+j+b / 8) % b=0↔j=padZ b (b / 8) len:=by
 unfold padZ at*
 rcases hb with rfl | rfl <;> omega
theorem K_1ju(K B:Nat){b0:Sl}{bk:Nat}(hb:bk=64∨bk=128){len0:Nat}(hl0:len0≤1099511627776){zs:List Int}(hz:zs.length=len0+1):
  ∀ (d j n:Nat) (w:World) (p:Sl),j+d=padZ bk (bk / 8) len0→d<n→OwnS 5 w p (ints .u8 (zs ++ List.replicate j 0))→B≤w.heap.size→Fresh B p→
   ∃ p' w',K_74 K n b0 (bk:Int) p w=some ((p',()),w')∧OwnS 5 w' p' (ints .u8 (zs ++ List.replicate (padZ bk (bk / 8) len0) 0))∧Below B w w'∧Fresh B p':=by
 have hzl:=K_te (m:=bk / 8) (len:=len0) hb
 have hbk:bk≤128:=by omega
 have e0:IntKind.i64.wrap (Int.tdiv (bk:Int) 8)=((bk / 8:Nat):Int):=by rw[show (8:Int)=((8:Nat):Int) from rfl,K_ed,wn64 (by omega)]
 intro d
 induction d with
 | zero=>
  intro j n w p hj hn ho hB hf
  obtain⟨n,rfl⟩:∃ m,n=m+1:=⟨n - 1,by omega⟩
  have hpl:p.len=len0+1+j:=by rw[ho.len,K_3,List.length_append,List.length_replicate];omega
  have e1:IntKind.i64.wrap (((p.len:Nat):Int)+((bk / 8:Nat):Int))=((len0+1+j+bk / 8:Nat):Int):=by rw[hpl,w64 (by omega) (by omega)];omega
  have hd:(Int.tmod ((len0+1+j+bk / 8:Nat):Int) (bk:Int) != 0)=false:=by
   rw[K_63]
   have:=(K_1bb hb (by omega)).2 (show j=padZ bk (bk / 8) len0 by omega)
   rw[this];rfl
  refine⟨p,w,?_,by rw[show padZ bk (bk / 8) len0=j by omega];exact ho,Below.refl B w,hf⟩
  show K_a6 K (K_74 K n) b0 (bk:Int) p w=_
  unfold K_a6
  rw[if_pos (by omega),e0,e1,hd,if_neg (by decide)]
 | succ d ih=>
  intro j n w p hj hn ho hB hf
  obtain⟨n,rfl⟩:∃ m,n=m+1:=⟨n - 1,by omega⟩
  have hpl:p.len=len0+1+j:=by rw[ho.len,K_3,List.length_append,List.length_replicate];omega
  have e1:IntKind.i64.wrap (((p.len:Nat):Int)+((bk / 8:Nat):Int))=((len0+1+j+bk / 8:Nat):Int):=by rw[hpl,w64 (by omega) (by omega)];omega
  have hd:(Int.tmod ((len0+1+j+bk / 8:Nat):Int) (bk:Int) != 0)=true:=by
   rw[K_63]
   have:=(K_1bb hb (show j≤padZ bk (bk / 8) len0 by omega)).1
   simp only[bne_iff_ne,ne_eq]
   intro e
   have:=this (by omega)
   omega
  obtain⟨w1,s2,w2,h1,h2,o2,l2,bl2,hf2⟩:=push1 0 ho (by omega) hB hf
  have er:zs ++ List.replicate j 0 ++ [(0:Int)]=zs ++ List.replicate (j+1) 0:=by rw[List.append_assoc,List.replicate_succ']
  rw[er]at o2
  obtain⟨s3,w3,h3,o3,bl3,hf3⟩:=ih (j+1) n w2 s2 (by omega) (by omega) o2 (by have:=bl2.size;omega) hf2
  refine⟨s3,w3,?_,o3,bl2.trans bl3,hf3⟩
  show K_a6 K (K_74 K n) b0 (bk:Int) p w=_
  unfold K_a6
  rw[if_pos (by omega),e0,e1,hd,if_pos rfl,h1,bnd_ok]
  show bnd (apd prog 23 23 (.slice p.a p.len p.cap) (.slice (some ⟨w.heap.size,0,none⟩) 1 1) w1) _=_
  rw[h2,bnd_ok,h3]
def tailB(x:Int):Nat→List Int
 | 0=>[]
 | n+1=>(if n≥8 then 0 else IntKind.u8.wrap (Int.fdiv x (2 ^ (8*n)))) :: tailB x n
theorem K_1l2(x:Int):tailB x 8=bigB x 8:=rfl
theorem K_1iz(x:Int):tailB x 16=List.replicate 8 0 ++ bigB x 8:=rfl
theorem K_1jl(K B:Nat){bits:Int}:∀ (m n:Nat) (w:World) (p:Sl) (xs:List Int),m≤16→m<n→OwnS 5 w p (ints .u8 xs)→p.len+m≤140737488355328→B≤w.heap.size→Fresh B p→
  ∃ p' w',K_73 K n p bits ((m:Int) - 1) w=some ((p',()),w')∧OwnS 5 w' p' (ints .u8 (xs ++ tailB bits m))∧Below B w w'∧Fresh B p':=by
 intro m
 induction m with
 | zero=>
  intro n w s xs hm hn ho hs hB hf
  obtain⟨n,rfl⟩:∃ k,n=k+1:=⟨n - 1,by omega⟩
  refine⟨s,w,?_,by simpa[tailB] using ho,Below.refl B w,hf⟩
  show K_a8 K (K_73 K n) s bits (((0:Nat):Int) - 1) w=_
  simp[K_a8]
 | succ m ih=>
  intro n w s xs hm hn ho hs hB hf
  obtain⟨n,rfl⟩:∃ k,n=k+1:=⟨n - 1,by omega⟩
  have e0:(((m+1:Nat):Int) - 1)=(m:Int):=by omega
  have hd:decide ((m:Int)≥0)=true:=by simp
  have e8:IntKind.u64.wrap (IntKind.i64.wrap (8*(m:Int)))=((8*m:Nat):Int):=by rw[w64 (by omega) (by omega),IntKind.wrap_u64];omega
  have e1:IntKind.i64.wrap ((m:Int) - 1)=(m:Int) - 1:=w64 (by omega) (by omega)
  obtain⟨w1,s2,w2,h1,h2,o2,l2,bl2,hf2⟩:=push1 (if m≥8 then 0 else IntKind.u8.wrap (Int.fdiv bits (2 ^ (8*m)))) ho (by omega) hB hf
  obtain⟨s3,w3,h3,o3,bl3,hf3⟩:=ih n w2 s2 _ (by omega) (by omega) o2 (by omega) (by have:=bl2.size;omega) hf2
  refine⟨s3,w3,?_,by simpa[tailB] using o3,bl2.trans bl3,hf3⟩
  show K_a8 K (K_73 K n) s bits (((m+1:Nat):Int) - 1) w=_
  unfold K_a8
  rw[e0,hd,if_pos rfl]
  by_cases h8:m≥8
  ·have hd8:decide ((m:Int)≥8)=true:=by simp;omega
   rw[if_pos h8]at h1
   rw[hd8,if_pos rfl,h1,bnd_ok]
   show bnd (apd prog 23 23 (.slice s.a s.len s.cap) (.slice (some ⟨w.heap.size,0,none⟩) 1 1) w1) _=_
   rw[h2,bnd_ok,e1,h3]
  ·have hd8:decide ((m:Int)≥8)=false:=by simp;omega
   have hmin:min (8*m) IntKind.u64.bits=8*m:=Nat.min_eq_left (by simp only[IntKind.bits];omega)
   rw[if_neg h8]at h1
   rw[hd8,if_neg (by decide),e8,if_pos (Int.natCast_nonneg _),J_tn,hmin,h1,bnd_ok]
   show bnd (apd prog 23 23 (.slice s.a s.len s.cap) (.slice (some ⟨w.heap.size,0,none⟩) 1 1) w1) _=_
   rw[h2,bnd_ok,e1,h3]
theorem K_1lb{K:Nat}(hK:18446744073709551616≤K){h:Int}(hk:known h=true){w:World}{b:Sl}{xs:List Int}(hx:Src w b (ints .u8 xs))(hl:xs.length≤1099511627776):
  ∃ p w',K_ep K b ((blk h:Nat):Int) w=some ((p,()),w')∧OwnS 5 w' p (ints .u8 (xs ++ pads h xs.length))∧Upd none_ w w'∧Fresh w.heap.size p:=by
 have hbl:b.len=xs.length:=by rw[hx.len,K_3]
 have hbk:=K_km hk
 have hwb:=K_e9 h
 have hzl:=K_te (m:=blk h / 8) (len:=xs.length) hbk
 obtain⟨s1,w1,h1,l1,o1,u1,f1⟩:=K_1e sliceB (OwnS.nil 5 w) hx (by show (0+b.len)*1≤_;omega)
 rw[List.nil_append]at o1
 have h1:apd prog 23 23 (.slice none 0 0) (.slice b.a b.len b.cap) w=some (s1,w1):=h1
 have u1':Upd none_ w w1:=u1.mono fun k _ e=>by cases e
 have hf1:Fresh w.heap.size s1:=by
  intro k hk
  rcases f1 with e | e
  ·rw[e]at hk;cases hk
  ·rw[e]at hk;have:=Option.some.inj hk;omega
 have l1:s1.len=xs.length:=by rw[o1.len,K_3]
 obtain⟨w2,s3,w3,h2,h3,o3,l3,bl3,hf3⟩:=push1 128 o1 (by omega) u1'.size hf1
 have hz:(xs ++ [(128:Int)]).length=xs.length+1:=by simp
 obtain⟨s4,w4,h4,o4,bl4,hf4⟩:=K_1ju K w.heap.size (b0:=b) hbk hl hz (padZ (blk h) (blk h / 8) xs.length) 0 K w3 s3 (by omega) (by omega) (by simpa using o3) (by have:=bl3.size;have:=u1'.size;omega) hf3
 have l4:s4.len=xs.length+1+padZ (blk h) (blk h / 8) xs.length:=by rw[o4.len,K_3,List.length_append,List.length_replicate,hz]
 obtain⟨s5,w5,h5,o5,bl5,hf5⟩:=K_1jl K w.heap.size (bits:=IntKind.u64.wrap (((xs.length:Nat):Int)*8)) (blk h / 8) K w4 s4 _ (by omega) (by omega) o4 (by omega) (by have:=bl3.size;have:=u1'.size;have:=bl4.size;omega) hf4
 have b1:Below w.heap.size w w1:=u1'.below (Nat.le_refl _) fun _ _=>id
 refine⟨s5,w5,?_,?_,Upd.of_below (((b1.trans bl3).trans bl4).trans bl5),hf5⟩
 ·have ed:IntKind.i64.wrap (Int.tdiv ((blk h:Nat):Int) 8)=((blk h / 8:Nat):Int):=by rw[show (8:Int)=((8:Nat):Int) from rfl,K_ed,wn64 (by omega)]
  have em:IntKind.i64.wrap (((blk h / 8:Nat):Int) - 1)=((blk h / 8:Nat):Int) - 1:=w64 (by omega) (by omega)
  have el:IntKind.u64.wrap ((b.len:Nat):Int)=((xs.length:Nat):Int):=by rw[hbl,IntKind.wrap_u64];omega
  unfold K_ep
  rw[h1,bnd_ok,h2,bnd_ok]
  dsimp only
  rw[h3,bnd_ok,h4,bnd_ok,ed,em,el,h5,bnd_ok]
 ·have e8:2*wordB h=blk h / 8:=by omega
  have:xs ++ pads h xs.length=xs ++ [128] ++ List.replicate (padZ (blk h) (blk h / 8) xs.length) 0 ++ tailB (IntKind.u64.wrap (((xs.length:Nat):Int)*8)) (blk h / 8):=by
   unfold pads
   rw[e8]
   rcases hbk with e | e <;> rw[e]
   ·rw[show 64 / 8=8 from rfl,K_1l2];simp[List.append_assoc]
   ·rw[show 128 / 8=16 from rfl,K_1iz,show 16 - 8=8 from rfl,←List.replicate_append_replicate]
    simp[List.append_assoc]
  rw[this];exact o5
theorem K_1f1{K:Nat} (hK:18446744073709551616≤K) {p:Sl} {bs C:List Int} (hin:∀ x∈bs,InK .u8 x) (hC:C.length=80) {gh:Nat} (hgR:gh≠2) (hlim:bs.length≤140737488355328) {m0:Nat} (hbs:bs.length=128*m0)
  (hpb:∀ q,p.a=some q→q.block≠gh) {e:TypeId}:
  ∀ (m j n:Nat) (w:World) (V:List Int),m+j=m0→m<n→V.length=8→(∀ q,p.a=some q→q.block<w.heap.size)→RdS .u8 w p bs→Bk e w gh (ints .u64 V)→Rd w ⟨2,0,none⟩ (ints .u64 C)→
   ∃ w',K_6j K n ⟨gh,0,none⟩ p ((128*j:Nat):Int) w=some ((),w')∧Bk e w' gh (ints .u64 (comps64 C m V (bs.drop (128*j))))∧Upd (· =gh) w w':=by
 intro m
 induction m with
 | zero=>
  intro j n w V hj hn hV hpl hr hb hT
  obtain⟨n,rfl⟩:∃ m,n=m+1:=⟨n - 1,by omega⟩
  refine⟨w,?_,hb,Upd.refl _ _⟩
  have hd:decide ((((128*j:Nat)):Int)<((p.len:Nat):Int))=false:=by rw[hr.len,hbs];simp;omega
  show K_ba K (K_6j K n) ⟨gh,0,none⟩ p ((128*j:Nat):Int) w=_
  unfold K_ba
  rw[hd,if_neg (by decide)]
 | succ m ih=>
  intro j n w V hj hn hV hpl hr hb hT
  obtain⟨n,rfl⟩:∃ m,n=m+1:=⟨n - 1,by omega⟩
  have hd:decide ((((128*j:Nat)):Int)<((p.len:Nat):Int))=true:=by rw[hr.len,hbs];simp;omega
  have hpl2:=hr.len
  have hpc:=hr.cap
  have e1:IntKind.i64.wrap (((128*j:Nat):Int)+128)=((128*(j+1):Nat):Int):=by rw[w64 (by omega) (by omega)];omega
  have c1:(0:Int)≤((128*(j+1):Nat):Int)∧((128*(j+1):Nat):Int)≤((p.cap:Nat):Int):=by omega
  have c2:(0:Int)≤((128*j:Nat):Int)∧((128*j:Nat):Int)≤((128*(j+1):Nat):Int):=by omega
  have hsub:=hr.drew.sub (lo:=128*j) (hi:=128*(j+1)) (by omega) (by omega)
  have hl1:((bs.take (128*(j+1))).drop (128*j)).length=128:=by simp;omega
  have lA:=hb.drew.ldA (i:=0) (n:=8) (by rw[K_3,hV];decide)
  rw[List.drop_zero,List.take_of_length_le (by rw[K_3,hV];decide)]at lA
  obtain⟨w1,t1,u1⟩:=K_1f5 hK (V:=V) (inD fun x hx=>hin x (List.mem_of_mem_take (List.mem_of_mem_drop hx))) hl1 hV hC (fun q hq=>by obtain⟨r,hr1,hr2⟩:=K_16z hq;have:=hpl r hr1;rw[hr2];exact this) hsub (hT.upd (S:=none_) (Upd.refl _ _).drew fun _=>id)
  have hcl:=K_i3 C V ((bs.take (128*(j+1))).drop (128*j))
  obtain⟨w2,s2,b2,u2⟩:=(hb.drew.upd0 u1).stA (o:=0) (vs:=(ints .u64 (comp64 C V ((bs.take (128*(j+1))).drop (128*j)))).toArray) (by rw[List.size_toArray,K_3,K_3,hcl,hV];decide) (by simpa using K_f)
  have b2:Bk e w2 gh (ints .u64 (comp64 C V ((bs.take (128*(j+1))).drop (128*j)))):=by
   have hs:seg (ints .u64 V) 0 (ints .u64 (comp64 C V ((bs.take (128*(j+1))).drop (128*j))))=ints .u64 (comp64 C V ((bs.take (128*(j+1))).drop (128*j))):=K_1df (by rw[K_3,K_3,hcl,hV])
   rw[←hs];exact b2
  have u12:Upd (· =gh) w w2:=((Upd.refl (· =gh) w).drew.and0 u1).trans' u2 fun _ _ e=>e
  obtain⟨w3,h3,b3,u3⟩:=ih (j+1) n w2 _ (by omega) (by omega) hcl (fun q hq=>by have:=hpl q hq;have:=u12.size;omega) (hr.upd u12 fun q hq=>hpb q hq) b2 (hT.upd u12 fun _ e=>hgR e.symm)
  have ec:comps64 C m (comp64 C V ((bs.take (128*(j+1))).drop (128*j))) (bs.drop (128*(j+1)))=comps64 C (m+1) V (bs.drop (128*j)):=by
   have hf:=K_11b 512 C V (bs.drop (128*j)) 128 (by decide)
   have e5:compH 512 C=comp64 C:=by funext a b;rfl
   rw[e5]at hf
   show _=comps64 C m (comp64 C V (bs.drop (128*j))) ((bs.drop (128*j)).drop 128)
   rw[List.drop_take,show 128*(j+1) - 128*j=128 by omega,hf,List.drop_drop,show 128*j+128=128*(j+1) by omega]
  rw[ec]at b3
  refine⟨w3,?_,b3,u12.trans' u3 fun _ _ e=>e⟩
  show K_ba K (K_6j K n) ⟨gh,0,none⟩ p ((128*j:Nat):Int) w=_
  unfold K_ba
  rw[hd,if_pos rfl,e1,if_pos c1]
  simp only[J_tn]
  rw[if_pos c2,lA,J_bs,t1,bnd_ok,if_pos (by rw[List.size_toArray,K_3,hcl]),s2,J_bs,h3]
theorem K_189(H:List Int)(m:Nat):∀ k i,i≤k→(outW H m k).take (i*m)=outW H m i
 | 0, i, h => by have:i=0:=by omega
                 subst this;simp[outW]
 | k+1,i,h=>by
  by_cases hk:i=k+1
  ·subst hk;rw[List.take_of_length_le (by rw[K_98];exact Nat.le_refl _)]
  ·show ((outW H m k ++ bigB (H.getD k 0) m).take (i*m))=_
   rw[List.take_append_of_le_length (by rw[K_98];exact Nat.mul_le_mul_right _ (by omega)),K_189 H m k i (by omega)]
theorem K_1gv(K B:Nat){h:Int}{H:List Int}{gh:Nat}{e:TypeId}(hH:H.length=8)(hgB:gh<B){m0 i q:Nat}(hi:i<8)(hq:sizeOfH h=(q:Int))(hq2:q≤64){n8:Int}:
  ∀ (m n:Nat) (w:World) (s:Sl) (xs:List Int),m≤8→m<n→Bk e w gh (ints .u64 H)→OwnS 5 w s (ints .u8 xs)→xs.length+m≤q→B≤w.heap.size→Fresh B s→
   ∃ s' w',K_94 K n h ⟨gh,0,none⟩ n8 s (i:Int) ((m:Int) - 1) w=some ((s',()),w')∧OwnS 5 w' s' (ints .u8 (xs ++ bigB (H.getD i 0) m))∧Below B w w'∧Fresh B s':=by
 intro m
 induction m with
 | zero=>
  intro n w s xs hm hn hb ho hl hB hf
  obtain⟨n,rfl⟩:∃ k,n=k+1:=⟨n - 1,by omega⟩
  refine⟨s,w,?_,by simpa[bigB] using ho,Below.refl B w,hf⟩
  show K_bb K (K_94 K n) h ⟨gh,0,none⟩ n8 s (i:Int) (((0:Nat):Int) - 1) w=_
  simp[K_bb,K_e2]
 | succ m ih=>
  intro n w s xs hm hn hb ho hl hB hf
  obtain⟨n,rfl⟩:∃ k,n=k+1:=⟨n - 1,by omega⟩
  have hsl:s.len=xs.length:=by rw[ho.len,K_3]
  have e0:(((m+1:Nat):Int) - 1)=(m:Int):=by omega
  have hd:decide ((m:Int)≥0)=true:=by simp
  have hd2:decide (((s.len:Nat):Int)<(q:Int))=true:=by rw[hsl];simp;omega
  have e8:IntKind.u64.wrap (IntKind.i64.wrap (8*(m:Int)))=((8*m:Nat):Int):=by rw[w64 (by omega) (by omega),IntKind.wrap_u64];omega
  have e1:IntKind.i64.wrap ((m:Int) - 1)=(m:Int) - 1:=w64 (by omega) (by omega)
  have hmin:min (8*m) IntKind.u64.bits=8*m:=Nat.min_eq_left (by simp only[IntKind.bits];omega)
  have c:(0:Int)≤(i:Int)∧(i:Int)<((8:Nat):Int):=by omega
  have lI:ldI .u64 ⟨gh,i,none⟩ w=some (H.getD i 0):=hb.ldI (by rw[K_1a5 (by omega)];simp[J_gd,show i<H.length by omega])
  obtain⟨w1,s2,w2,h1,h2,o2,l2,bl2,hf2⟩:=push1 (IntKind.u8.wrap (Int.fdiv (H.getD i 0) (2 ^ (8*m)))) ho (by omega) hB hf
  obtain⟨s3,w3,h3,o3,bl3,hf3⟩:=ih n w2 s2 _ (by omega) (by omega) (hb.upd (K_b2 bl2) (by omega)) o2 (by rw[List.length_append,List.length_singleton];omega) (by have:=bl2.size;omega) hf2
  refine⟨s3,w3,?_,by simpa[bigB] using o3,bl2.trans bl3,hf3⟩
  show K_bb K (K_94 K n) h ⟨gh,0,none⟩ n8 s (i:Int) (((m+1:Nat):Int) - 1) w=_
  unfold K_bb K_e2
  rw[e0,hd,if_pos rfl,K_u6,J_bs,hq,hd2,bnd_ok]
  dsimp only
  rw[if_pos rfl,if_pos c]
  simp only[J_tn,add_lit,Nat.mul_one,Nat.zero_add]
  rw[lI,J_bs,e8,if_pos (Int.natCast_nonneg _),J_tn,hmin,h1,bnd_ok]
  dsimp only
  rw[h2,bnd_ok,e1,h3]
theorem K_1gg{K:Nat}(hK:18446744073709551616≤K)(B:Nat){h:Int}{H:List Int}{gh:Nat}{e:TypeId}(hH:H.length=8)(hgB:gh<B){m0 i0:Nat}(hm:0<m0)(hm8:m0≤8)(hq:sizeOfH h=((i0*m0:Nat):Int))(hi0:i0≤8)(hq2:i0*m0≤64):
  ∀ (d i n:Nat) (w:World) (s:Sl),i+d=i0→d<n→Bk e w gh (ints .u64 H)→OwnS 5 w s (ints .u8 (outW H m0 i))→B≤w.heap.size→Fresh B s→
   ∃ s' w',K_67 K n h ⟨gh,0,none⟩ (m0:Int) s (i:Int) w=some ((s',()),w')∧OwnS 5 w' s' (ints .u8 (outW H m0 i0))∧Below B w w'∧Fresh B s':=by
 intro d
 induction d with
 | zero=>
  intro i n w s hi hn hb ho hB hf
  obtain⟨n,rfl⟩:∃ k,n=k+1:=⟨n - 1,by omega⟩
  have hsl:s.len=i*m0:=by rw[ho.len,K_3,K_98]
  have hii:i=i0:=by omega
  subst hii
  have hd:decide (((s.len:Nat):Int)<((i*m0:Nat):Int))=false:=by rw[hsl];simp
  refine⟨s,w,?_,ho,Below.refl B w,hf⟩
  show K_bk K (K_67 K n) h ⟨gh,0,none⟩ (m0:Int) s (i:Int) w=_
  unfold K_bk
  rw[K_u6,J_bs,hq,hd,if_neg (by decide)]
 | succ d ih=>
  intro i n w s hi hn hb ho hB hf
  obtain⟨n,rfl⟩:∃ k,n=k+1:=⟨n - 1,by omega⟩
  have hsl:s.len=i*m0:=by rw[ho.len,K_3,K_98]
  have hlt:i*m0+m0≤i0*m0:=by rw[←Nat.succ_mul];exact Nat.mul_le_mul_right _ (by omega)
  have hd:decide (((s.len:Nat):Int)<((i0*m0:Nat):Int))=true:=by rw[hsl];simp only[decide_eq_true_eq];omega
  have em:IntKind.i64.wrap ((m0:Int) - 1)=(m0:Int) - 1:=w64 (by omega) (by omega)
  have e1:IntKind.i64.wrap ((i:Int)+1)=((i+1:Nat):Int):=by rw[w64 (by omega) (by omega)];rfl
  obtain⟨s2,w2,h2,o2,bl2,hf2⟩:=K_1gv K B (h:=h) hH hgB (m0:=m0) (i:=i) (by omega) hq hq2 (n8:=(m0:Int)) m0 K w s _ hm8 (by omega) hb ho (by rw[K_98];omega) hB hf
  obtain⟨s3,w3,h3,o3,bl3,hf3⟩:=ih (i+1) n w2 s2 (by omega) (by omega) (hb.upd (K_b2 bl2) (by omega)) o2 (by have:=bl2.size;omega) hf2
  refine⟨s3,w3,?_,o3,bl2.trans bl3,hf3⟩
  show K_bk K (K_67 K n) h ⟨gh,0,none⟩ (m0:Int) s (i:Int) w=_
  unfold K_bk
  rw[K_u6,J_bs,hq,hd,if_pos rfl,em,h2,bnd_ok,e1,h3]
theorem K_1gy{K:Nat}(hK:18446744073709551616≤K){h:Int}{C S:List Int}{w:World}(T:TabsR w C S){b:Sl}{xs:List Int}(hx:Src w b (ints .u8 xs))(hin:∀ x∈xs,InK .u8 x)(hl:xs.length≤1099511627776):
  ∃ s' w',K_dr K h b w=some ((s',()),w')∧OwnS 5 w' s' (ints .u8 (sumOf C S h xs))∧Upd none_ w w'∧Fresh w.heap.size s':=by
 unfold sumOf
 cases hk:known h with
 | false=>
  have hb0:blockOfH h=0:=by
   have q:h≠224∧h≠256∧h≠384∧h≠512:=by simp[known]at hk;omega
   unfold blockOfH
   rw[if_neg (by omega),if_neg (by omega)]
  refine⟨⟨none,0,0⟩,w,?_,by simpa using OwnS.nil 5 w,Upd.refl _ _,fun k hk=>by cases hk⟩
  unfold K_dr
  rw[K_11h,J_bs,hb0]
  rfl
 | true=>
  have hb0:blockOfH h=((blk h:Nat):Int):=by rcases K_af hk with e | e | e | e <;> subst e <;> rfl
  have hbk:=K_km hk
  have hwb:=K_e9 h
  have hbp:=K_ji h
  obtain⟨i0,hi0,hi8⟩:∃ i0:Nat,sizeOfH h=((i0*wordB h:Nat):Int)∧i0≤8:=by
   rcases K_af hk with e | e | e | e <;> subst e
   ·exact⟨7,rfl,by decide⟩
   ·exact⟨8,rfl,by decide⟩
   ·exact⟨6,rfl,by decide⟩
   ·exact⟨8,rfl,by decide⟩
  have hsz:h / 8=((i0*wordB h:Nat):Int):=by rw[←hi0];unfold sizeOfH;rw[if_pos hk]
  have hq2:i0*wordB h≤64:=by
   have:i0*wordB h≤8*8:=Nat.mul_le_mul hi8 (by omega)
   omega
  obtain⟨w1,h1,u1⟩:=K_1c9 hK hk T.to.sl T.rs
  obtain⟨w2,n2,b2,u2,z2⟩:=K_9 z150 150 w1
  have b2:Bk 150 w2 w1.heap.size z150.toList:=b2
  have hfl:(ints .u64 (firstH S h)).length=8:=by rw[K_3,K_13]
  obtain⟨w3,s3,b3,u3,_⟩:=lay' b2 (vs:=ints .u64 (firstH S h)) (by rw[hfl];rfl) K_f
  have hz1:=u1.size
  have q3:Upd none_ w w3:=(u1.and0 u2).trans' u3 fun k hk e=>by omega
  have hz3:w.heap.size≤w3.heap.size:=q3.size
  have hxs3:=hx.upd0 q3
  obtain⟨p,w4,h4,o4,u4,f4⟩:=K_1lb hK hk hxs3 hl
  have hlen:=K_11j h xs.length
  have hzl:=K_te (m:=2*wordB h) (len:=xs.length) hbk
  have hin2:∀ x∈xs ++ pads h xs.length,InK .u8 x:=fun x hx=>(List.mem_append.1 hx).elim (hin x) (K_1dh h _ x)
  have hpb:∀ q,p.a=some q→q.block≠w1.heap.size:=fun q hq e=>by have:=f4 q.block (by simp[Sl.blk,hq]);have:=b3.lt;omega
  have hpl:∀ q,p.a=some q→q.block<w4.heap.size:=fun q hq=>o4.lt (by simp[Sl.blk,hq])
  have b4:=b3.upd0 u4
  have T4:=T.upd0 (q3.and0 u4)
  have h4T:=T.lt
  have key:∃ w5,K_b7 K ⟨w1.heap.size,0,none⟩ p ((IntKind.i64.wrap (Int.tdiv ((blk h:Nat):Int) 16)) == 4) w4=some ((),w5)∧
    Bk 150 w5 w1.heap.size (ints .u64 (compsH h C ((xs ++ pads h xs.length).length / blk h) (firstH S h) (xs ++ pads h xs.length)))∧Upd (· =w1.heap.size) w4 w5:=by
   have hwhole:=K_1e4 h hk xs
   have hdm:=Nat.div_add_mod (xs ++ pads h xs.length).length (blk h)
   obtain⟨M,hM⟩:∃ M,(xs ++ pads h xs.length).length / blk h=M:=⟨_,rfl⟩
   rw[hwhole,hM,Nat.add_zero]at hdm
   rw[hM]
   have hlt:(xs ++ pads h xs.length).length≤140737488355328:=by rw[List.length_append,hlen];omega
   rcases hbk with e | e
   ·have hn:narrowB h=true:=by unfold blk at e;split at e <;> simp_all
    have hd:((IntKind.i64.wrap (Int.tdiv ((blk h:Nat):Int) 16)) == 4)=true:=by rw[e];rfl
    rw[e]at hdm
    obtain⟨m,rfl⟩:∃ m,M=m+1:=⟨M - 1,by
     have:0<(xs ++ pads h xs.length).length:=by rw[List.length_append,hlen];omega
     omega⟩
    have lA:=b4.ldA (i:=0) (n:=8) (by rw[hfl];decide)
    rw[List.drop_zero,List.take_of_length_le (by rw[hfl];decide)]at lA
    obtain⟨w5,h5,u5⟩:=K_1bv hK T.to.cl (K_13 S h) hlt hdm.symm hpl o4.rd T4.rc
    have hcl:=K_fw C (m+1) (firstH S h) (xs ++ pads h xs.length) (K_13 S h)
    obtain⟨w6,s6,b6,u6,_⟩:=lay' (b4.upd0 u5) (vs:=ints .u64 (comps32 C (m+1) (firstH S h) (xs ++ pads h xs.length))) (by rw[hfl,K_3,hcl]) K_f
    refine⟨w6,?_,?_,(u5.mono fun _ _ e=>e.elim).trans' u6 fun _ _ e=>e⟩
    ·unfold K_b7
     rw[hd,if_pos rfl,lA,J_bs,h5,bnd_ok,if_pos (by rw[List.size_toArray,K_3,hcl]),s6,J_bs]
    ·have:compsH h C (m+1) (firstH S h) (xs ++ pads h xs.length)=comps32 C (m+1) (firstH S h) (xs ++ pads h xs.length):=by unfold compsH;rw[if_pos hn]
     rw[this];exact b6
   ·have hn:¬narrowB h=true:=by unfold blk at e;split at e <;> simp_all
    have hd:((IntKind.i64.wrap (Int.tdiv ((blk h:Nat):Int) 16)) == 4)=false:=by rw[e];rfl
    rw[e]at hdm
    obtain⟨w5,h5,b5,u5⟩:=K_1f1 hK hin2 T.to.cl (gh:=w1.heap.size) (by omega) hlt hdm.symm hpb M 0 K w4 (firstH S h) (by omega) (by omega) (K_13 S h) hpl o4.rd b4 T4.rc
    have h5:K_6j K K ⟨w1.heap.size,0,none⟩ p 0 w4=_:=h5
    rw[Nat.mul_zero,List.drop_zero]at b5
    refine⟨w5,?_,?_,u5⟩
    ·unfold K_b7
     rw[hd,if_neg (by decide),h5,bnd_ok]
    ·have:compsH h C M (firstH S h) (xs ++ pads h xs.length)=comps64 C M (firstH S h) (xs ++ pads h xs.length):=by unfold compsH;rw[if_neg hn]
     rw[this];exact b5
  obtain⟨w5,h5,b5,u5⟩:=key
  have hcl:=K_15p h C ((xs ++ pads h xs.length).length / blk h) (firstH S h) (xs ++ pads h xs.length) (K_13 S h)
  have hg5:w1.heap.size<w5.heap.size:=b5.lt
  obtain⟨s6,w6,h6,o6,bl6,f6⟩:=K_1gg hK w5.heap.size hcl hg5 (by omega) (by omega) hi0 hi8 hq2 i0 0 K w5 ⟨none,0,0⟩ (by omega) (by omega) b5 (by simpa[outW] using OwnS.nil 5 w5) (Nat.le_refl _) (fun k hk=>by cases hk)
  have h6:K_67 K K h ⟨w1.heap.size,0,none⟩ ((wordB h:Nat):Int) ⟨none,0,0⟩ 0 w5=_:=h6
  have q5:Upd none_ w w5:=(q3.and0 u4).trans' u5 fun k hk e=>by omega
  have hz5:=q5.size
  refine⟨s6,w6,?_,?_,q5.and0 (Upd.of_below bl6),fun k hk=>by have:=f6 k hk;omega⟩
  ·have en:IntKind.i64.wrap (Int.tdiv ((blk h:Nat):Int) 16)=((wordB h:Nat):Int):=by
    rw[show (16:Int)=((16:Nat):Int) from rfl,K_ed,wn64 (by omega)];omega
   have hne:(((blk h:Nat):Int) == 0)=false:=by simp;omega
   unfold K_dr
   rw[K_11h,J_bs,hb0]
   dsimp only
   rw[hne,if_neg (by decide),h1,bnd_ok,n2,bnd_ok]
   dsimp only
   rw[if_pos (by rw[List.size_toArray,hfl]),s3,J_bs,h4,bnd_ok,h5,bnd_ok,en,h6,bnd_ok]
  ·rw[if_pos rfl]
   unfold digestOf
   rw[hsz,J_tn,K_189 _ _ 8 i0 hi8];exact o6
end Go.Sh

namespace Go.Sh
open Go.Fw Go.Sha Go.RowKit Go.Proofs.Tryd
def LentOne(w:World)(B N:Nat)(l:Sl)(p:Sl×List Int):Prop:=
 ∃ g cap,p.1=⟨some ⟨g,0,none⟩,p.2.length,cap⟩∧B≤g∧g<N∧l.blk≠some g∧OwnS 5 w ⟨some ⟨g,0,none⟩,p.2.length+70,cap⟩ (ints .u8 (p.2 ++ marks))
structure Lent(w:World) (B N:Nat) (l:Sl) (xss:List (List Int)):Prop where
 ex:∃ ps:List (Sl×List Int),ps.map Prod.snd=xss∧OwnS 23 w l (ps.map fun p=>slV p.1)∧∀ p∈ps,LentOne w B N l p
 fr:∀ k,l.blk=some k→B≤k∧k<N
 nn:N≤w.heap.size
theorem Lent.upd{w w':World}{B N:Nat}{l:Sl}{xss:List (List Int)}{X:Nat→Prop}(h:Lent w B N l xss)(u:Upd X w w')(hn:∀ k,B≤k→k<N→¬X k):Lent w' B N l xss:=by
 obtain⟨⟨ps,h1,h2,h3⟩,h4,h5⟩:=h
 refine⟨⟨ps,h1,h2.upd u fun k hk=>hn k (h4 k hk).1 (h4 k hk).2,fun p hp=>?_⟩,h4,Nat.le_trans h5 u.size⟩
 obtain⟨g,cap,a1,a2,a3,a4,a5⟩:=h3 p hp
 exact⟨g,cap,a1,a2,a3,a4,a5.upd u fun k hk=>by simp[Sl.blk]at hk;subst hk;exact hn _ a2 a3⟩
theorem Lent.upd0{w w':World}{B N:Nat}{l:Sl}{xss:List (List Int)}(h:Lent w B N l xss)(u:Upd none_ w w'):Lent w' B N l xss:=h.upd u fun _ _ _=>id
theorem LentOne.src{w:World}{B N:Nat}{l:Sl}{p:Sl×List Int}(h:LentOne w B N l p):Src w p.1 (ints .u8 p.2):=by
 obtain⟨g,cap,a1,a2,a3,a4,a5⟩:=h
 rw[a1];exact(K_19v a5).src K_f
theorem Lent.parts{w w0:World}{B N:Nat}{l s:Sl}{xss:List (List Int)}{Q:Nat→Prop}(h:Lent w B N l xss)(hp:PartsW w0 s xss Q):Parts w l xss fun k=>B≤k∧k<N:=by
 obtain⟨⟨ps,a1,a2,a3⟩,a4,a5⟩:=h
 have hll:l.len=xss.length:=by rw[a2.len,←a1];simp
 refine⟨hll,a2.cap.1,hp.inn,hp.lens,hp.many,?_⟩
 have hsrc:=a2.src (fun v hv=>by obtain⟨x,_,rfl⟩:=List.mem_map.1 hv;rfl)
 rcases hsrc.rd with ⟨b1,b2,b3⟩ | ⟨p,b1,b2⟩
 ·left
  have:ps=[]:=by simpa using b3
  rw[←a1,this];rfl
 ·right
  refine⟨p,ps.map Prod.fst,b1,by rw[←a1];simp,a4 p.block (by simp[Sl.blk,b1]),by rw[List.map_map];exact b2,fun i hi=>?_⟩
  have hi2:i<ps.length:=by rw[←a1]at hi;simpa using hi
  have e1:(ps.map Prod.fst).getD i nilS=ps[i].1:=by simp[J_gd,hi2]
  have e2:xss.getD i []=ps[i].2:=by rw[←a1];simp[J_gd,hi2]
  have h0:=a3 ps[i] (List.getElem_mem hi2)
  rw[e1,e2]
  refine⟨h0.src,fun q hq _=>?_⟩
  obtain⟨g,cap,f1,f2,f3,f4,f5⟩:=h0
  rw[f1]at hq
  obtain rfl:=Option.some.inj hq
  exact⟨⟨f2,f3⟩,by show g<w.heap.size;omega⟩
theorem Lent.at{w:World}{B N:Nat}{l:Sl}{xss:List (List Int)}(h:Lent w B N l xss){i:Nat}(hi:i<xss.length):
  ∃ p g cap,l.a=some p∧l.len=xss.length∧ldS (p.add i) w=some ⟨some ⟨g,0,none⟩,(xss.getD i []).length,cap⟩∧B≤g∧g<N∧l.blk≠some g∧OwnS 5 w ⟨some ⟨g,0,none⟩,(xss.getD i []).length+70,cap⟩ (ints .u8 (xss.getD i [] ++ marks)):=by
 obtain⟨⟨ps,a1,a2,a3⟩,a4,a5⟩:=h
 have hll:l.len=xss.length:=by rw[a2.len,←a1];simp
 have hi2:i<ps.length:=by rw[←a1]at hi;simpa using hi
 have e2:xss.getD i []=ps[i].2:=by rw[←a1];simp[J_gd,hi2]
 obtain⟨g,cap,f1,f2,f3,f4,f5⟩:=a3 ps[i] (List.getElem_mem hi2)
 have hsrc:=a2.src (fun v hv=>by obtain⟨x,_,rfl⟩:=List.mem_map.1 hv;rfl)
 rcases hsrc.rd with ⟨b1,b2,b3⟩ | ⟨p,b1,b2⟩
 ·have:ps=[]:=by simpa using b3
  rw[this]at hi2;simp at hi2
 ·rw[e2]
  refine⟨p,g,cap,b1,hll,?_,f2,f3,f4,f5⟩
  have:=b2 i (slV ps[i].1) (by simp[hi2])
  rw[f1]at this
  simp[ldS,this,asS,slV]
theorem K_116(h:Int)(C H0 xs:List Int):∀ x∈digestOf h C H0 xs,InK .u8 x:=by
 have key:∀ (H:List Int) (m i:Nat),∀ x∈outW H m i,InK .u8 x:=by
  intro H m i
  induction i with
  | zero=>intro x hx;simp[outW]at hx
  | succ i ih=>
   intro x hx
   simp only[outW,List.mem_append]at hx
   rcases hx with hx | hx
   ·exact ih x hx
   ·exact K_165 _ m x hx
 intro x hx
 exact key _ _ _ x (List.mem_of_mem_take hx)
end Go.Sh

namespace Go.Sh
open Go.Fw Go.Sha Go.RowKit Go.Proofs.Tryd
theorem known256:known 256=true:=rfl
end Go.Sh

namespace Go.Sh
open Go.Fw Go.Sha Go.RowKit Go.Proofs.Tryd Go.Deep Go.ChangeShapes Go.WideShapes
structure BytesIn(W:World) (s:Sl) (xs:List Int):Prop where
 src:Src W s (ints .u8 xs)
 inn:∀ x∈xs,InK .u8 x
 len:xs.length≤140737488351232
 cap:s.cap≤140737488351232
end Go.Sh

namespace Go.Sh
open Go.Fw Go.Sha Go.RowKit Go.Proofs.Tryd Go.Deep Go.ChangeShapes Go.WideShapes
def cubesC:List Int:=[4794697086780616226,8158064640168781261,13096744586834688815,16840607885511220156,4131703408338449720,6480981068601479193,10538285296894168987,12329834152419229976,15566598209576043074,1334009975649890238,2608012711638119052,6128411473006802146,8268148722764581231,9286055187155687089,11230858885718282805,13951009754708518548,16472876342353939154,17275323862435702243,1135362057144423861,2597628984639134821,3308224258029322869,5365058923640841347,6679025012923562964,8573033837759648693,10970295158949994411,12119686244451234320,12683024718118986047,13788192230050041572,14330467153632333762,15395433587784984357,489312712824947311,1452737877330783856,2861767655752347644,3322285676063803686,5560940570517711597,5996557281743188959,7280758554555802590,8532644243296465576,9350256976987008742,10552545826968843579,11727347734174303076,12113106623233404929,14000437183269869457,14369950271660146224,15101387698204529176,15463397548674623760,17586052441742319658,1182934255886127544,1847814050463011016,2177327727835720531,2830643537854262169,3796741975233480872,4115178125766777443,5681478168544905931,6601373596472566643,7507060721942968483,8399075790359081724,8693463985226723168,9568029438360202098,10144078919501101548,10430055236837252648,11840083180663258601,13761210420658862357,14299343276471374635,14566680578165727644,15097957966210449927,16922976911328602910,17689382322260857208,500013540394364858,748580250866718886,1242879168328830382,1977374033974150939,2944078676154940804,3659926193048069267,4368137639120453308,4836135668995329356,5532061633213252278,6448918945643986474,6902733635092675308,7801388544844847127]
def squaresS:List Int:=[7640891576956012808,13503953896175478587,4354685564936845355,11912009170470909681,5840696475078001361,11170449401992604703,2270897969802886507,6620516959819538809,14680500436340154072,7105036623409894663,10473403895298186519,1526699215303891257,7436329637833083697,10282925794625328401,15784041429090275239,5167115440072839076]
theorem K_yp{P:Program}{w:World}:∀ {laid:List (String×DataW Unit)} {ps:List MemPlace},DataW.LaidVars P w laid ps→∀ {name:String} {k:IntKind} {zs:List Int} {g:Nat} {t e:TypeId} {n:Nat},
  (name,Lib.tabData k zs)∈laid→P.globalNamed name=some g→(P.globals[g]?).map (·.type)=some t→P.underlying t=some (.array n e)→P.underlying e=some (.int k)→P.cellsOf e=1→P.cellsOf t=n→Lib.TabIs P w name k zs
 | [],_,_,_,_,_,_,_,_,_,hm,_,_,_,_,_,_=>by simp at hm
 | x :: rest,ps,h,name,k,zs,g,t,e,n,hm,hg,hty,ht,he,hce,hct=>by
  obtain⟨g',t',cs,fuel,p,q,hg',ht',hvar,hd,h2,_⟩:=h
  rcases List.mem_cons.1 hm with rfl | hm
  ·obtain rfl:=Option.some.inj (hg.symm.trans hg')
   obtain rfl:=Option.some.inj (hty.symm.trans ht')
   unfold Lib.TabIs
   rw[hvar,←Lib.cells_of_tab ht he hce hct hd]
  ·exact K_yp h2 hm hg hty ht he hce hct
theorem K_153{P:Program}{w:World}{name:String}{zs:List Int}{g:Nat}(h:Lib.TabIs P w name .u64 zs)(hg:P.globalNamed name=some g):Rd w ⟨g,0,none⟩ (ints .u64 zs):=by
 intro i v hv
 rw[add_lit,Nat.zero_add]
 have hi:i<zs.length:=by have:=(List.getElem?_eq_some_iff.1 hv).1;simpa using this
 rw[h.cell hg i hi]
 simp only[ints,List.getElem?_map,J_ge hi]at hv
 rw[J_gd,J_ge hi]
 exact hv
theorem K_1e9:∀ i,InK .u64 (squaresS.getD i 0):=by
 have h:∀ x∈squaresS,0≤x∧x<18446744073709551616:=by decide+kernel
 intro i
 rw[J_gd]
 cases hx:squaresS[i]? with
 | none=>exact⟨by decide,by decide⟩
 | some x=>exact h x (List.mem_of_getElem? hx)
def laid4:List (String×DataW Unit):=[("coffer/cofferref01.cubes",Lib.tabData .u64 cubesC),("coffer/cofferref01.squares",Lib.tabData .u64 squaresS),("coffer/digest.cubes",Lib.tabData .u64 cubesC),("coffer/digest.squares",Lib.tabData .u64 squaresS)]
theorem tabs4{w:World}(h:laidMetH prog laid4 w):TabsR w cubesC squaresS:=by
 obtain⟨ps,h,_⟩:laidMet prog laid4 w:=h
 exact⟨⟨rfl,rfl,K_1e9,
  K_153 (K_yp h (name:="coffer/digest.cubes") (zs:=cubesC) (g:=3) (t:=175) (e:=149) (n:=80) (by simp[laid4]) (by kernel_rfl) (by kernel_rfl) (by kernel_rfl) (by kernel_rfl) (by kernel_rfl) (by kernel_rfl)) (by kernel_rfl),
  K_153 (K_yp h (name:="coffer/digest.squares") (zs:=squaresS) (g:=4) (t:=173) (e:=149) (n:=16) (by simp[laid4]) (by kernel_rfl) (by kernel_rfl) (by kernel_rfl) (by kernel_rfl) (by kernel_rfl) (by kernel_rfl)) (by kernel_rfl)⟩,
  K_153 (K_yp h (name:="coffer/cofferref01.cubes") (zs:=cubesC) (g:=2) (t:=175) (e:=149) (n:=80) (by simp[laid4]) (by kernel_rfl) (by kernel_rfl) (by kernel_rfl) (by kernel_rfl) (by kernel_rfl) (by kernel_rfl)) (by kernel_rfl),
  K_153 (K_yp h (name:="coffer/cofferref01.squares") (zs:=squaresS) (g:=1) (t:=173) (e:=149) (n:=16) (by simp[laid4]) (by kernel_rfl) (by kernel_rfl) (by kernel_rfl) (by kernel_rfl) (by kernel_rfl) (by kernel_rfl)) (by kernel_rfl)⟩
end Go.Sh

set_option maxRecDepth 100000
namespace Go.Sh
open Go.Fw Go.Gf Go.Sha Go.RowKit Go.Proofs.Tryd
def checkL(C S:List Int)(set:Nat)(sec:List F):List F:=((digestOf 256 C (firstH S 256) (([b8 (set / 256),b8 set] ++ sec).map bF)).map toF).take 4
def rowP(C S:List Int)(set:Nat)(sec:List F):List F:=sec ++ checkL C S set sec
theorem K_1m5{D:List Int}(h:∀ x∈D,InK .u8 x):(D.map toF).map bF=D:=by
 rw[List.map_map]
 conv=>rhs;rw[←List.map_id D]
 exact List.map_congr_left fun x hx=>K_1m2 (h x hx)
theorem fb_to{D:List Int}(h:∀ x∈D,InK .u8 x):fb (D.map toF)=ints .u8 D:=by unfold fb;rw[K_1m5 h]
theorem K_1bj(l:List F):∀ x∈l.map bF,InK .u8 x:=fun x hx=>by obtain⟨a,_,rfl⟩:=List.mem_map.1 hx;exact bF_in a
theorem K_lf(C H0 xs:List Int):(digestOf 256 C H0 xs).length=32:=by
 unfold digestOf
 rw[List.length_take,K_98];rfl
theorem K_1ft(C S:List Int)(set:Nat)(sec:List F):(checkL C S set sec).length=4:=by
 unfold checkL
 rw[List.length_take,List.length_map,K_lf];rfl
theorem K_1l8(C S:List Int)(set:Nat)(sec:List F):(rowP C S set sec).length=sec.length+4:=by
 unfold rowP;rw[List.length_append,K_1ft]
theorem K_1dy{w w':World} {g n c:Nat} {ts:List Sl} {xss:List (List Int)} (ho:OwnS 23 w' ⟨some ⟨g,0,none⟩,n,c⟩ (ts.map slV)) (hne:ts≠[]) (hl:ts.length=xss.length) (hu:Upd none_ w w') (hg:g<w'.heap.size)
  (hin:∀ xs∈xss,∀ x∈xs,InK .u8 x) (hlen:∀ xs∈xss,xs.length≤140737488351232) (hm:xss.length*24≤140737488351232)
  (hs:∀ i,i<xss.length→Src w (ts.getD i nilS) (ints .u8 (xss.getD i []))∧∀ q,(ts.getD i nilS).a=some q→xss.getD i []≠[]→q.block<w.heap.size):
  Parts w' ⟨some ⟨g,0,none⟩,n,c⟩ xss fun k=>k<w'.heap.size:=by
 have h0:=ho.1
 have hn:n=xss.length:=by rw[List.length_map]at h0;exact(h0.symm.trans hl)
 have hsrc:=ho.src (fun v hv=>by obtain⟨x,_,rfl⟩:=List.mem_map.1 hv;rfl)
 refine⟨hn,ho.cap.1,hin,hlen,hm,.inr ⟨⟨g,0,none⟩,ts,rfl,hl,hg,?_,fun i hi=>?_⟩⟩
 ·rcases hsrc.rd with ⟨b1,_,_⟩ | ⟨q,b1,b2⟩
  ·cases b1
  ·obtain rfl:=Option.some.inj b1;exact b2
 ·obtain⟨a1,a2⟩:=hs i hi
  exact⟨a1.upd0 hu,fun q hq hne=>⟨Nat.lt_of_lt_of_le (a2 q hq hne) hu.size,Nat.lt_of_lt_of_le (a2 q hq hne) hu.size⟩⟩
theorem K_1lp{s:Nat}:IntKind.u8.wrap (Int.fdiv (s:Int) (2 ^ 8))=bF (b8 (s / 256)):=by
 have:Int.fdiv (s:Int) (2 ^ 8)=((s / 256:Nat):Int):=K_jf s 8
 rw[this,K_7o]
theorem K_1le{s:Nat}(hs:s<65536):IntKind.u8.wrap (IntKind.u16.wrap (Int.tdiv (s:Int) 256))=bF (b8 (s / 256)):=by
 have:Int.tdiv (s:Int) 256=((s / 256:Nat):Int):=rfl
 have e:IntKind.u16.wrap ((s / 256:Nat):Int)=((s / 256:Nat):Int):=by rw[K_9y];omega
 rw[this,e,K_7o]
theorem K_1kq{s:Nat}:IntKind.u8.wrap (Int.tmod (s:Int) 256)=bF (b8 s):=by
 have:Int.tmod (s:Int) 256=((s % 256:Nat):Int):=rfl
 rw[this,K_7o]
 unfold b8 bF
 simp
theorem K_1lg{K:Nat}(hK:18446744073709551616≤K){w:World}{C S:List Int}(T:Tabs w C S){set:Nat}{sv:Sl}{sec:List F}(hs:BSrc w sv sec)(hl:sec.length≤1000):
  ∃ s' w',K_ek K (set:Int) sv w=some ((s',()),w')∧OwnS 5 w' s' (fb (rowP C S set sec))∧Upd none_ w w'∧Fresh w.heap.size s':=by
 obtain⟨w1,a1,a2,a3,a4⟩:=K_87 sliceB (fb [b8 (set / 256),b8 set]) (fun v hv=>by obtain⟨x,_,rfl⟩:=List.mem_map.1 hv;rfl) (by rw[K_1];simp) (by rw[K_1];simp) w
 have a1:bldS prog 23 2 #[(0,(.int .u8 (bF (b8 (set / 256))))),(1,(.int .u8 (bF (b8 set))))] w=some (⟨some ⟨w.heap.size,0,none⟩,2,2⟩,w1):=a1
 have a2:OwnS 5 w1 ⟨some ⟨w.heap.size,0,none⟩,2,2⟩ (fb [b8 (set / 256),b8 set]):=a2
 have hs1:=hs.upd0 a3
 have q1:=a3.size
 obtain⟨w2,b1,b2,b3,b4⟩:=K_87 sliceR ([⟨some ⟨w.heap.size,0,none⟩,2,2⟩,sv].map slV) (fun v hv=>by obtain⟨x,_,rfl⟩:=List.mem_map.1 hv;rfl) (by simp) (by simp) w1
 have b1:bldS prog 67 2 #[(0,(.slice (some ⟨w.heap.size,0,none⟩) 2 2)),(1,(.slice sv.a sv.len sv.cap))] w1=some (⟨some ⟨w1.heap.size,0,none⟩,2,2⟩,w2):=b1
 have hlt:=K_h5 hs
 have hp:=K_1dy (w:=w1) (xss:=[[b8 (set / 256),b8 set].map bF,sec.map bF]) b2 (by simp) rfl b3 (by omega) (fun xs hxs=>by
   simp only[List.mem_cons,List.not_mem_nil,or_false]at hxs
   rcases hxs with rfl | rfl
   ·exact K_1bj _
   ·exact K_1bj _) (fun xs hxs=>by
   simp only[List.mem_cons,List.not_mem_nil,or_false]at hxs
   rcases hxs with rfl | rfl
   ·rw[List.length_map];simp
   ·rw[List.length_map];omega) (by simp) (fun j hj=>by
   match j,hj with
   | 0,_=>exact⟨a2.src K_f,fun q hq _=>by obtain rfl:=Option.some.inj hq;show w.heap.size<_;omega⟩
   | 1,_=>exact⟨hs1,fun q hq hne=>by have:=hlt q hq (fun e=>hne (by show sec.map bF=[];rw[e];rfl));omega⟩)
 have hfl:([[b8 (set / 256),b8 set].map bF,sec.map bF]:List (List Int)).flatten=([b8 (set / 256),b8 set] ++ sec).map bF:=by simp
 obtain⟨d,w3,d1,d2,d3⟩:=K_1lu hK known256 ((T.upd0 a3).upd0 b3) hp (fun _ hk=>hk) (by rw[hfl,List.length_map,List.length_append];show 2+sec.length≤_;omega)
 rw[hfl]at d2
 have d1:K_cf K 256 ⟨some ⟨w1.heap.size,0,none⟩,2,2⟩ w2=some ((d,0,()),w3):=d1
 have hdl:d.len=32:=by rw[d2.src.len,K_3,K_lf]
 have hdc:=d2.src.cap
 have u3:=(a3.and0 b3).and0 d3
 have ud:Upd none_ w w3.drew:=u3.drew
 obtain⟨s4,w4,e1,e2,e3,e4⟩:=K_of K (hs.upd0 ud) (by omega)
 have h4l:=e2.len
 rw[K_1]at h4l
 have hsd:Src w4 ⟨sla d.a 0 d.cap 1,4 - 0,d.cap - 0⟩ (fb (checkL C S set sec)):=by
  have h:=((d2.src.cut (n:=4) (by omega)).upd0 (Upd.refl none_ w3).drew).upd0 e3
  rw[←fb_to (K_116 256 C _ _),K_jo]at h
  rw[sla_zero,Nat.sub_zero,Nat.sub_zero];exact h
 obtain⟨s5,w5,f1,f2,f3,f4,f5⟩:=K_1e sliceB e2 hsd (by show (s4.len+(4 - 0))*1≤_;omega)
 rw[←K_4s]at f3
 have q3:w.heap.size≤w3.drew.heap.size:=u3.size
 have q4:=e3.size
 have cc:(0:Int)≤4∧(4:Int)≤((d.cap:Nat):Int):=by omega
 refine⟨s5,w5,?_,f3,(ud.and0 e3).trans' f4 fun k hk e=>by have:=e4 k e;omega,fun k hk=>?_⟩
 ·unfold K_ek
  rw[K_1lp,K_7o,a1,bnd_ok]
  dsimp only
  rw[b1,bnd_ok,d1,bnd_ok,if_pos cc,e1,bnd_ok,f1,bnd_ok]
 ·rcases f5 with e | e
  ·rw[e]at hk;have:=e4 k hk;omega
  ·rw[e]at hk;have e2:w4.heap.size=k:=Option.some.inj hk;omega
theorem K_1la{K:Nat}(hK:18446744073709551616≤K){w:World}{C S:List Int}(T:TabsR w C S){set:Nat}(hset:set<65536){sv:Sl}{sec:List F}(hs:BSrc w sv sec)(hl:sec.length≤1000):
  ∃ s' w',K_gq K (set:Int) sv w=some ((s',()),w')∧OwnS 5 w' s' (fb (rowP C S set sec))∧Upd none_ w w'∧Fresh w.heap.size s':=by
 have hsl:sv.len=sec.length:=by rw[hs.len,K_1]
 obtain⟨w1,a1,a2,a3,a4⟩:=K_87 sliceB (fb [b8 (set / 256),b8 set]) (fun v hv=>by obtain⟨x,_,rfl⟩:=List.mem_map.1 hv;rfl) (by rw[K_1];simp) (by rw[K_1];simp) w
 have a1:bldS prog 23 2 #[(0,(.int .u8 (bF (b8 (set / 256))))),(1,(.int .u8 (bF (b8 set))))] w=some (⟨some ⟨w.heap.size,0,none⟩,2,2⟩,w1):=a1
 have a2:OwnS 5 w1 ⟨some ⟨w.heap.size,0,none⟩,2,2⟩ (fb [b8 (set / 256),b8 set]):=a2
 have q1:=a3.size
 obtain⟨s2,w2,b1,b2,b3,b4,b5⟩:=K_1e sliceB a2 (hs.upd0 a3) (by show (2+sv.len)*1≤_;omega)
 rw[←K_4s]at b3
 have u2:Upd none_ w w2:=a3.trans' b4 fun j hj e=>by have e2:w.heap.size=j:=Option.some.inj e;omega
 obtain⟨d,w3,d1,d2,d3,d4⟩:=K_1gy hK (T.upd0 u2) (h:=256) (b3.src K_f) (K_1bj _) (by rw[List.length_map,List.length_append];show 2+sec.length≤_;omega)
 have hsum:sumOf C S 256 (([b8 (set / 256),b8 set] ++ sec).map bF)=digestOf 256 C (firstH S 256) (([b8 (set / 256),b8 set] ++ sec).map bF):=by unfold sumOf;rw[if_pos known256]
 rw[hsum]at d2
 have hdl:d.len=32:=by rw[d2.len,K_3,K_lf]
 have hdc:=d2.cap.1
 have u3:=u2.and0 d3
 obtain⟨s4,w4,e1,e2,e3,e4,e5⟩:=K_1e sliceB (OwnS.nil 5 w3) (hs.upd0 u3) (by show (0+sv.len)*1≤_;omega)
 have e3:OwnS 5 w4 s4 (fb sec):=e3
 have e4:Upd none_ w3 w4:=e4.mono fun k _ e=>by cases e
 have hf4:∀ k,s4.blk=some k→w3.heap.size≤k:=fun k hk=>by
  rcases e5 with e | e
  ·rw[e]at hk;cases hk
  ·rw[e]at hk;have e2:w3.heap.size=k:=Option.some.inj hk;omega
 have h4l:=e3.len
 rw[K_1]at h4l
 have hsd:Src w4 ⟨sla d.a 0 d.cap 1,4 - 0,d.cap - 0⟩ (fb (checkL C S set sec)):=by
  have h:=(((d2.src K_f).cut (n:=4) (by omega))).upd0 e4
  rw[←fb_to (K_116 256 C _ _),K_jo]at h
  rw[sla_zero,Nat.sub_zero,Nat.sub_zero];exact h
 obtain⟨s5,w5,f1,f2,f3,f4,f5⟩:=K_1e sliceB e3 hsd (by show (s4.len+(4 - 0))*1≤_;omega)
 rw[←K_4s]at f3
 have q3:=u3.size
 have q4:=e4.size
 have cc:(0:Int)≤4∧(4:Int)≤((d.cap:Nat):Int):=by omega
 refine⟨s5,w5,?_,f3,(u3.and0 e4).trans' f4 fun k hk e=>by have:=hf4 k e;omega,fun k hk=>?_⟩
 ·unfold K_gq
  rw[K_1le hset,K_1kq,a1,bnd_ok]
  dsimp only
  rw[b1,bnd_ok,d1,bnd_ok,e1,bnd_ok,if_pos cc,f1,bnd_ok]
 ·rcases f5 with e | e
  ·rw[e]at hk;have:=hf4 k hk;omega
  ·rw[e]at hk;have e2:w4.heap.size=k:=Option.some.inj hk;omega
end Go.Sh

namespace Go.Sh
open Go.Fw Go.Gf Go.RowKit Go.Proofs.Tryd
def lnV(g:Nat):Value:=.func (.func 81) #[] #[.pointer (some ⟨g,0,none⟩)]
def LineAt(P:Nat→Prop)(w:World)(v:Value)(l:List F):Prop:=∃ g s,v=lnV g∧P g∧Bk 23 w g [slF s]∧BSrc w s l∧∀ q,s.a=some q→P q.block
theorem LineAt.upd{P Q X:Nat→Prop}{w w':World}{v:Value}{l:List F}(h:LineAt P w v l)(u:Upd X w w')(hn:∀ k,P k→¬X k)(hq:∀ k,P k→Q k):LineAt Q w' v l:=by
 obtain⟨g,s,a,b,c,d,e⟩:=h
 exact⟨g,s,a,hq g b,c.upd u (hn g b),Fw.Src.upd d u fun q hq=>hn _ (e q hq),fun q hx=>hq _ (e q hx)⟩
theorem LineAt.upd0{P:Nat→Prop}{w w':World}{v:Value}{l:List F}(h:LineAt P w v l)(u:Upd none_ w w'):LineAt P w' v l:=h.upd u (fun _ _=>id) fun _=>id
def LinesAt(P:Nat→Prop)(w:World)(s:Sl)(rows:List (List F)):Prop:=
 ∃ vs,Src w s vs∧vs.length=rows.length∧(∀ q,s.a=some q→P q.block)∧∀ i,i<rows.length→LineAt P w (vs.getD i .nilFunc) (rows.getD i [])
theorem LinesAt.upd{P X:Nat→Prop}{w w':World}{s:Sl}{rows:List (List F)}(h:LinesAt P w s rows)(u:Upd X w w')(hn:∀ k,P k→¬X k):LinesAt P w' s rows:=by
 obtain⟨vs,a,b,c,d⟩:=h
 exact⟨vs,Fw.Src.upd a u fun q hq=>hn _ (c q hq),b,c,fun i hi=>(d i hi).upd u hn fun _=>id⟩
theorem LinesAt.upd0{P:Nat→Prop}{w w':World}{s:Sl}{rows:List (List F)}(h:LinesAt P w s rows)(u:Upd none_ w w'):LinesAt P w' s rows:=h.upd u fun _ _=>id
theorem LinesAt.len{P:Nat→Prop}{w:World}{s:Sl}{rows:List (List F)}(h:LinesAt P w s rows):s.len=rows.length:=by
 obtain⟨vs,a,b,c,d⟩:=h
 rw[a.len,b]
theorem LinesAt.ld{P:Nat→Prop}{w:World}{s:Sl}{rows:List (List F)}(h:LinesAt P w s rows){i:Nat}(hi:i<rows.length):∃ p v,s.a=some p∧ldV (p.add i) w=some v∧LineAt P w v (rows.getD i []):=by
 obtain⟨vs,a,b,c,d⟩:=h
 rcases a.rd with ⟨_,_,e⟩ | ⟨p,e1,e2⟩
 ·rw[e]at b;have b:0=rows.length:=b;omega
 ·refine⟨p,vs.getD i .nilFunc,e1,?_,d i hi⟩
  have hv:vs[i]? =some (vs.getD i .nilFunc):=by
   rw[J_gd,J_ge (by omega)];rfl
  exact e2 i _ hv
end Go.Sh

namespace Go.Sh
open Go.Fw Go.Gf Go.RowKit Go.Proofs.Tryd
end Go.Sh

namespace Go.Sh
open Go.Fw Go.Gf Go.RowKit Go.Proofs.Tryd
theorem K_1e8{K:Nat}(hK:18446744073709551616≤K){s:Sl}{l:List F}(hl:l.length≤100000){x:Nat}:
  ∀ (d j m:Nat) (w:World) (v:F),j+d=l.length→d<m→BSrc w s l→
   ∃ w',K_4f K m s (x:Int) (bF v) (j:Int) w=some ((bF (v+F.pow (b8 x) j*ev (l.drop j) (b8 x)),()),w')∧Upd none_ w w':=by
 intro d
 induction d with
 | zero=>
  intro j m w v hj hm hs
  obtain⟨m,rfl⟩:∃ q,m=q+1:=⟨m - 1,by omega⟩
  have hsl:s.len=l.length:=by rw[hs.len,K_1]
  refine⟨w,?_,Upd.refl _ _⟩
  show K_8f K (K_4f K m) s (x:Int) (bF v) (j:Int) w=_
  unfold K_8f
  rw[if_neg (by simp only[decide_eq_true_eq];omega),List.drop_eq_nil_of_le (by omega),K_p3,F.mul_zero,F.add_zero]
 | succ d ih=>
  intro j m w v hj hm hs
  obtain⟨m,rfl⟩:∃ q,m=q+1:=⟨m - 1,by omega⟩
  have hsl:s.len=l.length:=by rw[hs.len,K_1]
  have ud:=(Upd.refl none_ w).drew
  have e3:IntKind.i64.wrap ((j:Int)+1)=((j+1:Nat):Int):=by rw[w64 (by omega) (by omega)];rfl
  obtain⟨p,p1,p2⟩:=K_1a (hs.upd0 ud) (i:=j) (by omega)
  have c1:(0:Int)≤(j:Int)∧(j:Int)<((s.len:Nat):Int):=by omega
  obtain⟨w',k1,k2⟩:=ih (j+1) m w.drew (v+l[j]'(by omega)*F.pow (b8 x) j) (by omega) (by omega) (hs.upd0 ud)
  have ee:v+l[j]'(by omega)*F.pow (b8 x) j+F.pow (b8 x) (j+1)*ev (l.drop (j+1)) (b8 x)=v+F.pow (b8 x) j*ev (l.drop j) (b8 x):=by
   rw[List.drop_eq_getElem_cons (show j<l.length by omega),K_40,F.mul_add,F.pow_succ,F.mul_assoc,F.mul_comm (l[j]'(by omega)),F.add_assoc]
  rw[ee]at k1
  refine⟨w',?_,k2.predrew⟩
  show K_8f K (K_4f K m) s (x:Int) (bF v) (j:Int) w=_
  unfold K_8f
  rw[if_pos (decide_eq_true (show (j:Int)<((s.len:Nat):Int) by omega)),p1,J_bs,if_pos c1,J_tn,Nat.mul_one,p2,J_bs,K_7o,K_17j (by omega) _ _ (by omega) (by omega),J_bs,rtimes (by omega),J_bs,addF,e3]
  exact k1
theorem K_1j4{K:Nat}(hK:18446744073709551616≤K){w:World}{s:Sl}{l:List F}(hl:l.length≤100000)(x:Nat)(hs:BSrc w s l):
  ∃ w',K_ct K s (x:Int) w=some ((bF (ev l (b8 x)),()),w')∧Upd none_ w w':=by
 obtain⟨w',k1,k2⟩:=K_1e8 hK hl (x:=x) l.length 0 K w 0 (by omega) (by omega) hs
 rw[F.pow_zero,F.one_mul,F.zero_add,List.drop_zero]at k1
 have k1:K_4f K K s (x:Int) 0 0 w=_:=k1
 refine⟨w',?_,k2⟩
 unfold K_ct
 rw[k1,bnd_ok]
end Go.Sh

namespace Go.Sh
open Go.Fw Go.Gf Go.Sha Go.RowKit Go.Proofs.Tryd
end Go.Sh

namespace Go.Sh
open Go.Fw Go.Gf Go.Sha Go.RowKit Go.Proofs.Tryd
def mendAll:List (List Nat)→Int×List (List F)
 | []=>(0,[])
 | T :: r=>match (mendR T).2 with
  | none=>((mendR T).1,[])
  | some x=>((mendAll r).1,x.1 :: (mendAll r).2)
def alikeB(a c:List F):Bool:=decide (setN c=setN a∧bAt c 2=bAt a 2∧bAt c 4=bAt a 4)
def ownL:List (List F)→List (List F)→Option (List (List F))
 | acc,[]=>some acc
 | acc,c :: r=>match acc.find? (fun a=>bAt a 3 == bAt c 3) with
  | some a=>if valsP a=valsP c then ownL acc r else none
  | none=>ownL (acc ++ [c]) r
def ptsL(l:List (List F))(v:Nat):List (F×F):=l.map fun c=>(b8 (bAt c 3),(valsP c).getD v 0)
def betwL(l:List (List F))(need n:Nat)(x:F):List F:=(List.range n).map fun v=>lag (ptsL (l.take need) v) x
def fitL(C S:List Int)(l:List (List F))(set need size:Nat):Bool:=
 decide ((∀ c∈l.drop need,betwL l need (size+4) (b8 (bAt c 3))=valsP c)∧betwL l need (size+4) 0=rowP C S set ((betwL l need (size+4) 0).take size))
def joinR(C S:List Int)(Ts:List (List Nat)):Int×List (List F):=
 if (mendAll Ts).1≠0 then((mendAll Ts).1,[]) else
 match (mendAll Ts).2 with
 | []=>(114,[])
 | a :: r=>if (a :: r).all (alikeB a)=false then(115,[]) else
  match ownL [] (a :: r) with
  | none=>(116,[])
  | some l=>if l.length<bAt a 2 then(114,[]) else if fitL C S l (setN a) (bAt a 2) (bAt a 4)=false then(117,[]) else(0,l)
end Go.Sh

namespace Go.Sh
open Go.Fw Go.Gf Go.RowKit Go.Proofs.Tryd
def margT:List ByteArray:=List.replicate 70 str7
theorem K_1ew{K:Nat}{l:Sl}:∀ (d i f:Nat) (w:World) (s:Sl) (ts:List ByteArray),i+d=70→ts.length+d≤1099511627776→d<f→OwnS 9 w s (tx ts)→
  ∃ s' w',K_5i K f l s (i:Int) w=some ((s',()),w')∧OwnS 9 w' s' (tx (ts ++ List.replicate d str7))∧Upd (fun k=>s.blk=some k) w w'∧∀ k,s'.blk=some k→s.blk=some k∨w.heap.size≤k:=by
 intro d
 induction d with
 | zero=>
  intro i f w s ts hi hl hf ho
  obtain⟨f,rfl⟩:∃ q,f=q+1:=⟨f - 1,by omega⟩
  refine⟨s,w,?_,by rw[List.replicate_zero,List.append_nil];exact ho,Upd.refl _ _,fun k hk=>.inl hk⟩
  show K_9r K (K_5i K f) l s (i:Int) w=_
  unfold K_9r
  rw[if_neg (by simp only[decide_eq_true_eq];omega)]
 | succ d ih=>
  intro i f w s ts hi hl hf ho
  obtain⟨f,rfl⟩:∃ q,f=q+1:=⟨f - 1,by omega⟩
  have e3:IntKind.i64.wrap ((i:Int)+1)=((i+1:Nat):Int):=by rw[w64 (by omega) (by omega)];rfl
  obtain⟨w1,s2,w2,a1,a2,a3,a4,a5⟩:=K_1kz ho (by omega) str7
  obtain⟨s3,w3,k1,k3,k4,k5⟩:=ih (i+1) f w2 s2 _ (by omega) (by rw[List.length_append];show ts.length+1+d≤_;omega) (by omega) a3
  rw[List.append_assoc]at k3
  have q:=a4.size
  refine⟨s3,w3,?_,k3,a4.trans' k4 (fun k hk e=>(a5 k e).elim id fun e2=>absurd hk (by omega)),fun k hk=>(k5 k hk).elim (a5 k) fun e=>.inr (by omega)⟩
  show K_9r K (K_5i K f) l s (i:Int) w=_
  unfold K_9r
  rw[if_pos (decide_eq_true (show (i:Int)<70 by omega)),a1,bnd_ok]
  dsimp only
  rw[a2,bnd_ok,e3,k1]
theorem K_1jf{K:Nat}(hK:18446744073709551616≤K){w:World}{l:Sl}{ts:List ByteArray}(hl:ts.length≤1000000)(hs:Src w l (tx ts)):
  ∃ a cap w',K_eo K l w=some ((⟨a,ts.length,cap⟩,()),w')∧OwnS 9 w' ⟨a,ts.length+70,cap⟩ (tx (ts ++ margT))∧Upd none_ w w'∧Fresh w.heap.size ⟨a,ts.length,cap⟩:=by
 have hsl:l.len=ts.length:=by rw[hs.len,K_16]
 obtain⟨s1,w1,a1,a2,a3,a4,a5⟩:=K_1e sliceT (OwnS.nil 9 w) hs (by show (0+l.len)*16≤_;omega)
 have a3:OwnS 9 w1 s1 (tx ts):=a3
 obtain⟨s2,w2,b1,b2,b3,b4⟩:=K_1ew (K:=K) (l:=l) 70 0 K w1 s1 ts (by omega) (by omega) (by omega) a3
 have b1:K_5i K K l s1 0 w1=_:=b1
 have a4:Upd none_ w w1:=a4.mono fun k _ e=>by cases e
 have h1:∀ k,s1.blk=some k→w.heap.size≤k:=fun k hk=>by
  rcases a5 with e | e
  ·rw[e]at hk;cases hk
  ·rw[e]at hk;have e2:w.heap.size=k:=Option.some.inj hk;omega
 have q:=a4.size
 have b2l:s2.len=ts.length+70:=by rw[b2.len,K_16,List.length_append,List.length_replicate]
 have b2c:=(b2.src (K_p2 _)).cap
 obtain⟨a,ln,cap⟩:=s2
 obtain rfl:ln=ts.length+70:=b2l
 refine⟨a,cap,w2,?_,b2,a4.trans' b3 (fun k hk e=>by have:=h1 k e;omega),fun k hk=>(b4 k hk).elim (h1 k) fun e=>by omega⟩
 unfold K_eo
 rw[a1,bnd_ok,b1,bnd_ok,hsl]
 have cc:(0:Int)≤((ts.length:Nat):Int)∧((ts.length:Nat):Int)≤((cap:Nat):Int):=by have:ts.length+70≤cap:=b2c;omega
 rw[if_pos cc]
 dsimp only
 rw[sla_zero,J_tn,Nat.sub_zero,Nat.sub_zero]
theorem K_1ey{K:Nat}{s:Sl}{ts:List ByteArray}(hl:ts.length≤1000000):
  ∀ (d i f:Nat) (w:World),i+d=70→d<f→Src w s (tx (ts ++ margT))→K_21 K f ((ts.length:Nat):Int) s (i:Int) w=some (.norm (),w):=by
 intro d
 induction d with
 | zero=>
  intro i f w hi hf hs
  obtain⟨f,rfl⟩:∃ q,f=q+1:=⟨f - 1,by omega⟩
  show K_5e K (K_21 K f) ((ts.length:Nat):Int) s (i:Int) w=_
  unfold K_5e
  rw[if_neg (by simp only[decide_eq_true_eq];omega)]
 | succ d ih=>
  intro i f w hi hf hs
  obtain⟨f,rfl⟩:∃ q,f=q+1:=⟨f - 1,by omega⟩
  have e3:IntKind.i64.wrap ((i:Int)+1)=((i+1:Nat):Int):=by rw[w64 (by omega) (by omega)];rfl
  have e4:IntKind.i64.wrap (((ts.length:Nat):Int)+(i:Int))=((ts.length+i:Nat):Int):=by rw[w64 (by omega) (by omega)];rfl
  have hlen:(ts ++ margT).length=ts.length+70:=by rw[List.length_append];rfl
  have hsl:s.len=ts.length+70:=by rw[hs.len,K_16,hlen]
  obtain⟨p,p1,p2⟩:=tx_at hs (i:=ts.length+i) (by omega)
  have ev:(ts ++ margT)[ts.length+i]'(by omega)=str7:=by
   rw[List.getElem_append_right (by omega)]
   unfold margT
   rw[List.getElem_replicate]
  rw[ev]at p2
  have cc:(0:Int)≤((ts.length+i:Nat):Int)∧((ts.length+i:Nat):Int)<((s.len:Nat):Int):=by omega
  show K_5e K (K_21 K f) ((ts.length:Nat):Int) s (i:Int) w=_
  unfold K_5e
  rw[if_pos (decide_eq_true (show (i:Int)<70 by omega)),p1,J_bs,e4,if_pos cc,J_tn,Nat.mul_one,p2,J_bs,if_neg (by simp),e3]
  exact ih (i+1) f w (by omega) (by omega) hs
theorem K_190{K:Nat}(hK:18446744073709551616≤K){w:World}{a:Option Addr}{cap:Nat}{l:Sl}{ts:List ByteArray}(hl:ts.length≤1000000)(ho:OwnS 9 w ⟨a,ts.length+70,cap⟩ (tx (ts ++ margT)))(hs:Src w l (tx ts)):
  ∃ w',K_6x K ⟨a,ts.length,cap⟩ l w=some ((true,()),w')∧Upd none_ w w':=by
 have hf:Src w ⟨a,ts.length,cap⟩ (tx ts):=by
  have h:=(ho.src (K_p2 _)).cut (n:=ts.length) (Nat.le_add_right _ _)
  have e:(tx (ts ++ margT)).take ts.length=tx ts:=by
   rw[K_xc,List.take_append_of_le_length (by rw[K_16];omega),List.take_of_length_le (by rw[K_16];omega)]
  rw[e]at h;exact h
 have hc:=(ho.src (K_p2 _)).cap
 have hc:ts.length+70≤cap:=hc
 obtain⟨w1,k1,k2⟩:=K_1am hK (by omega) hf hs
 have e4:IntKind.i64.wrap (((ts.length:Nat):Int)+70)=((ts.length+70:Nat):Int):=by rw[w64 (by omega) (by omega)];rfl
 have hw:=K_1ey (K:=K) (s:=⟨a,ts.length+70,cap⟩) hl 70 0 K w1 (by omega) (by omega) ((ho.src (K_p2 _)).upd0 k2)
 have hw:K_21 K K ((ts.length:Nat):Int) ⟨a,ts.length+70,cap⟩ 0 w1=_:=hw
 refine⟨w1,?_,k2⟩
 unfold K_6x
 rw[k1,bnd_ok]
 dsimp only
 rw[if_neg (by decide),e4,if_pos (by omega),sla_zero,J_tn,Nat.sub_zero,Nat.sub_zero,hw,bnd_ok]
end Go.Sh

namespace Go.Sh
open Go.Fw Go.Gf Go.RowKit Go.Proofs.Tryd
structure ManyS(P:Program) (t e:TypeId) (n:Nat) (z:Array Value) (bytes:Nat):Prop where
 ht:P.underlying t=some (.slice e)
 info:∃ i,P.info? e=some i∧i.size=n∧i.zero=some (.agg z)∧i.bytes=bytes
 pos:0<bytes
 zc:z.size=n
 np:0<n
def OwnN(e:TypeId)(n:Nat)(w:World)(s:Sl)(xs:List Value):Prop:=w.ownsRow 0 e n (.slice s.a s.len s.cap) s.len xs
theorem OwnN.nil(e:TypeId)(n:Nat)(w:World):OwnN e n w ⟨none,0,0⟩ []:=⟨by simp,.inl ⟨rfl,rfl⟩⟩
theorem OwnN.lt{e:TypeId}{n:Nat}{w:World}{s:Sl}{xs:List Value}(h:OwnN e n w s xs){k:Nat}(hk:s.blk=some k):k<w.heap.size:=by
 rcases h.2 with ⟨h1,_⟩ | ⟨g,cap,cur,h1,_,h2,_⟩
 ·injection h1 with h1;simp[Sl.blk,h1]at hk
 ·have:s.a=some ⟨g,0,none⟩:=by injection h1
  simp[Sl.blk,this]at hk;subst hk;exact(Array.getElem?_eq_some_iff.1 h2).1
theorem OwnN.upd{e:TypeId}{n:Nat}{w w':World}{s:Sl}{xs:List Value}{S:Nat→Prop}(h:OwnN e n w s xs)(u:Upd S w w')(hn:∀ k,s.blk=some k→¬S k):OwnN e n w' s xs:=by
 refine⟨h.1,h.2.imp id fun⟨g,cap,cur,h1,h0,h2,h3⟩=>⟨g,cap,cur,h1,h0,?_,h3⟩⟩
 have:s.a=some ⟨g,0,none⟩:=by injection h1
 rw[u.block g (Array.getElem?_eq_some_iff.1 h2).1 (hn g (by simp[Sl.blk,this]))];exact h2
theorem OwnN.upd0{e:TypeId}{n:Nat}{w w':World}{s:Sl}{xs:List Value}(h:OwnN e n w s xs)(u:Upd none_ w w'):OwnN e n w' s xs:=h.upd u fun _ _=>id
theorem K_1ab:∀ (l pre rest:List Value),l.length=rest.length→(l.zipIdx pre.length).foldl (fun a x=>a.setIfInBounds x.2 x.1) (pre ++ rest).toArray=(pre ++ l).toArray
 | [],pre,rest,h=>by
  have:rest=[]:=List.length_eq_zero_iff.1 h.symm
  rw[this];rfl
 | v :: r,pre,rest,h=>by
  obtain⟨x,q,rfl⟩:∃ x q,rest=x :: q:=by cases rest with
   | nil=>simp at h
   | cons x q=>exact⟨x,q,rfl⟩
  have ih:=K_1ab r (pre ++ [v]) q (by simpa using h)
  rw[List.zipIdx_cons,List.foldl_cons]
  have e:((pre ++ x :: q).toArray).setIfInBounds pre.length v=(pre ++ [v] ++ q).toArray:=by simp
  rw[e]
  simpa using ih
theorem K_1ij{n:Nat}(z cs:Array Value)(hz:z.size=n)(hc:cs.size=n):Instr.fill (fun i=>some (i*n,n)) z [(0,.agg cs)]=some cs:=by
 have e:(Value.agg cs).cells=cs:=rfl
 subst hc
 have h:=K_1ab cs.toList [] z.toList (by simp[hz])
 have e2:cs.zipIdx.toList=cs.toList.zipIdx:=by simp
 have h:List.foldl (fun a x=>a.setIfInBounds x.2 x.1) ([] ++ z.toList).toArray cs.toList.zipIdx=([] ++ cs.toList).toArray:=h
 rw[←e2,Array.foldl_toList]at h
 simp[Instr.fill,e,hz]
 simpa using h
theorem pushN{P:Program}{t e:TypeId}{n bytes:Nat}{z:Array Value}(T:ManyS P t e n z bytes){w:World}{s:Sl}{xs:List Value}(h:OwnN e n w s xs)(hb:(s.len+1)*bytes≤140737488355328)(hm:s.len+1≤16777216){cs:Array Value}(hc:cs.size=n)(h1:∀ v∈cs.toList,v.oneCell'=true)(hn:n≤1000):
  ∃ w1 s' w',bldS P t 1 #[(0,.agg cs)] w=some (⟨some ⟨w.heap.size,0,none⟩,1,1⟩,w1)∧apd P t t (.slice s.a s.len s.cap) (.slice (some ⟨w.heap.size,0,none⟩) 1 1) w1=some (s',w')∧s'.len=s.len+1∧OwnN e n w' s' (xs ++ cs.toList)∧Upd (fun k=>s.blk=some k) w w'∧∀ k,s'.blk=some k→s.blk=some k∨w.heap.size≤k:=by
 obtain⟨i,hi,hsz,hz,hby⟩:=T.info
 have np:=T.np
 have hr:=run_buildSlice (P:=P) w t e 1 #[(0,.agg cs)] cs i (.agg z) T.ht hi hz (by rw[hsz];omega) (by rw[hsz];omega) (by rw[hsz];exact K_1ij _ cs (by simp) hc)
 have hw1:(w.alloc (.cells cs e)).heap[w.heap.size]? =some (.cells cs e (0,0)):=heap_alloc_new w _
 have u1:Upd none_ w (w.alloc (.cells cs e)):=Upd.alloc _ _ _
 obtain⟨v',w',hr2,ho,hg,hn2,hbk⟩:=run_append_own_at (P:=P) (w.alloc (.cells cs e)) 0 t 0 e i (.agg z) n i.bytes T.ht hi hz hsz rfl T.zc np _ _ _ (h.upd0 u1) ⟨w.heap.size,0,none⟩ 1 1 cs.toList (by simp[hc]) (fun j u hj=>by
  rw[add_lit,Nat.zero_add]
  exact((Bk.new w cs e).cell j).trans hj) h1 (by simp only[maxLen];omega) (by rw[hby];exact hb) (Nat.zero_le _)
 have hs':∃ s':Sl,v'= .slice s'.a s'.len s'.cap∧s'.len=s.len+1:=by
  rcases ho.2 with ⟨rfl,h0⟩ | ⟨g,cap,cur,rfl,_⟩
  ·omega
  ·exact⟨⟨some ⟨g,0,none⟩,s.len+1,cap⟩,rfl,rfl⟩
 obtain⟨s',rfl,hl⟩:=hs'
 have e1:∀ u:Sl,(Value.slice u.a u.len u.cap).ownBlock=u.blk:=by
  intro u
  cases ha:u.a with
  | none=>simp[Value.ownBlock,Sl.blk,ha]
  | some q=>simp[Value.ownBlock,Sl.blk,ha]
 rw[e1,e1]at hbk
 refine⟨w.alloc (.cells cs e),s',w',?_,?_,hl,by unfold OwnN;rw[hl];rw[←hl]at ho ⊢;exact ho,(u1.mono (T:=fun k=>s.blk=some k) fun _ _ e=>e.elim).trans' ((Upd.of_grown hg).mono fun k _ hk=>by rw[e1]at hk;exact hk.symm) fun _ _ e=>e,fun k hk=>?_⟩
 ·unfold bldS;rw[hr]
 ·unfold apd;rw[hr2]
 ·rcases hbk with e0 | e0
  ·rw[e0]at hk;exact .inl hk
  ·rw[e0]at hk
   have e2:(w.alloc (.cells cs e)).heap.size=k:=Option.some.inj hk
   exact .inr (by have:=u1.size;omega)
end Go.Sh

namespace Go.Sh
open Go.Fw Go.Gf Go.RowKit Go.Proofs.Tryd
theorem K_1bh{α:Type}{n:Nat}(d:List α):∀ (ss:List (List α)) (i:Nat),(∀ s∈ss,s.length=n)→i<ss.length→(ss.flatten.drop (i*n)).take n=ss.getD i d
 | [],i,_,h=>by simp at h
 | s :: r,0,h,_=>by
  have hs:=h s (List.mem_cons_self ..)
  rw[Nat.zero_mul,List.drop_zero,List.flatten_cons,List.take_append_of_le_length (by omega),List.take_of_length_le (by omega)];rfl
 | s :: r,i+1,h,hi=>by
  have hs:=h s (List.mem_cons_self ..)
  have ih:=K_1bh d r i (fun x hx=>h x (List.mem_cons_of_mem _ hx)) (by simpa using hi)
  have e:(i+1)*n=s.length+i*n:=by rw[Nat.add_mul,Nat.one_mul,hs];omega
  rw[e,List.flatten_cons,←List.drop_drop,List.drop_left,ih];rfl
theorem OwnN.bk{e:TypeId}{n:Nat}{w:World}{s:Sl}{xs:List Value}(h:OwnN e n w s xs)(hne:0<s.len):∃ g cs,s.a=some ⟨g,0,none⟩∧Bk e w g cs∧cs.take (s.len*n)=xs∧s.len*n≤cs.length:=by
 rcases h.2 with ⟨_,h2⟩ | ⟨g,cap,cur,h1,_,h2,h3,_,h5,h6⟩
 ·omega
 ·refine⟨g,cur.toList,by injection h1,h2,h6,?_⟩
  rw[Array.length_toList,h5]
  exact Nat.mul_le_mul_right n h3
def StrS(e:TypeId)(n:Nat)(w:World)(s:Sl)(ss:List (List Value)):Prop:=OwnN e n w s ss.flatten∧s.len=ss.length∧∀ x∈ss,x.length=n
theorem StrS.at{e:TypeId}{n:Nat}{w:World}{s:Sl}{ss:List (List Value)}(h:StrS e n w s ss){i:Nat}(hi:i<ss.length):
  ∃ g cs,s.a=some ⟨g,0,none⟩∧Bk e w g cs∧ldA n ⟨g,i*n,none⟩ w=some (ss.getD i []).toArray∧∀ j,j<n→cs[i*n+j]? =(ss.getD i [])[j]?:=by
 obtain⟨ho,hl,hn⟩:=h
 obtain⟨g,cs,a1,a2,a3,a4⟩:=ho.bk (by omega)
 have hin:(i+1)*n≤s.len*n:=Nat.mul_le_mul_right n (by omega)
 rw[Nat.add_mul,Nat.one_mul]at hin
 have hd:(cs.drop (i*n)).take n=ss.getD i []:=by
  rw[←K_1bh [] ss i hn hi,←a3,List.drop_take,List.take_take]
  congr 1;omega
 refine⟨g,cs,a1,a2,?_,fun j hj=>?_⟩
 ·rw[a2.ldA (by omega),hd]
 ·rw[←hd,List.getElem?_take,if_pos hj,List.getElem?_drop]
theorem StrS.upd0{e:TypeId}{n:Nat}{w w':World}{s:Sl}{ss:List (List Value)}(h:StrS e n w s ss)(u:Upd none_ w w'):StrS e n w' s ss:=⟨h.1.upd0 u,h.2⟩
theorem StrS.upd{e:TypeId}{n:Nat}{w w':World}{s:Sl}{ss:List (List Value)}{S:Nat→Prop}(h:StrS e n w s ss)(u:Upd S w w')(hn:∀ k,s.blk=some k→¬S k):StrS e n w' s ss:=⟨h.1.upd u hn,h.2⟩
theorem StrS.nil(e:TypeId)(n:Nat)(w:World):StrS e n w ⟨none,0,0⟩ []:=⟨OwnN.nil e n w,rfl,fun _ h=>by cases h⟩
end Go.Sh

namespace Go.Sh
open Go.Fw Go.Gf Go.RowKit Go.Proofs.Tryd
theorem manySh:ManyS prog 108 102 5 z102 56:=⟨by kernel_rfl,⟨t102,by kernel_rfl,by kernel_rfl,by kernel_rfl,by kernel_rfl⟩,by decide,rfl,by decide⟩
theorem manyPt:ManyS prog 129 105 6 z105 64:=⟨by kernel_rfl,⟨t105,by kernel_rfl,by kernel_rfl,by kernel_rfl,by kernel_rfl⟩,by decide,rfl,by decide⟩
theorem K_1kc{w:World}{s:Sl}{ts:List ByteArray}(hs:Src w s (tx ts))(n:Nat):∃ s',K_bt s (n:Int)=some (s',())∧Src w s' (tx (ts.take n))∧(ts.take n).length≤n:=by
 have hsl:s.len=ts.length:=by rw[hs.len,K_16]
 have hc:=hs.cap
 unfold K_bt
 by_cases h:n<ts.length
 ·rw[if_pos (decide_eq_true (show ((s.len:Nat):Int) > (n:Int) by omega)),if_pos (by omega)]
  refine⟨_,rfl,?_,by rw[List.length_take];omega⟩
  have:=hs.cut (n:=n) (by omega)
  have e:(tx ts).take n=tx (ts.take n):=by unfold tx;rw[List.map_take]
  rw[e]at this
  rw[sla_zero,J_tn,Nat.sub_zero,Nat.sub_zero];exact this
 ·rw[if_neg (by simp only[decide_eq_true_eq];omega),List.take_of_length_le (by omega)]
  exact⟨s,rfl,hs,by omega⟩
end Go.Sh

namespace Go.Sh
open Go.Fw Go.Gf Go.Sha Go.RowKit Go.Proofs.Tryd
structure ShAt(B:Nat) (w:World) (all:Sl) (svs:List Sl) (L:List (List F)):Prop where
 len:svs.length=L.length
 str:StrS 102 5 w all ((L.zip svs).map fun p=>shareC p.1 p.2)
 src:∀ i,i<L.length→BSrc w (svs.getD i nilF) (valsP (L.getD i []))
 low:∀ k,all.blk=some k→B≤k
 off:∀ i,i<L.length→∀ q,(svs.getD i nilF).a=some q→all.blk≠some q.block∧B≤q.block∧q.block<w.heap.size
theorem ShAt.upd{B:Nat}{w w':World}{all:Sl}{svs:List Sl}{L:List (List F)}{X:Nat→Prop}(h:ShAt B w all svs L)(u:Upd X w w')(hn:∀ k,B≤k→k<w.heap.size→¬X k):ShAt B w' all svs L:=
 ⟨h.len,h.str.upd u fun k hk=>hn k (h.low k hk) (h.str.1.lt hk),fun i hi=>Fw.Src.upd (h.src i hi) u fun q hq=>hn _ (h.off i hi q hq).2.1 (h.off i hi q hq).2.2,h.low,fun i hi q hq=>⟨(h.off i hi q hq).1,(h.off i hi q hq).2.1,Nat.lt_of_lt_of_le (h.off i hi q hq).2.2 u.size⟩⟩
theorem ShAt.upd0{B:Nat}{w w':World}{all:Sl}{svs:List Sl}{L:List (List F)}(h:ShAt B w all svs L)(u:Upd none_ w w'):ShAt B w' all svs L:=h.upd u fun _ _ _=>id
theorem ShAt.nil(B:Nat)(w:World):ShAt B w ⟨none,0,0⟩ [] []:=⟨rfl,StrS.nil _ _ _,fun i hi=>absurd hi (Nat.not_lt_zero i),(fun k hk=>by cases hk),fun i hi=>absurd hi (Nat.not_lt_zero i)⟩
theorem ShAt.size{B:Nat}{w:World}{all:Sl}{svs:List Sl}{L:List (List F)}(h:ShAt B w all svs L):all.len=L.length:=by
 rw[h.str.2.1,List.length_map,List.length_zip,h.len,Nat.min_self]
theorem K_cy{α:Type}(l m:List α)(i:Nat)(d:α)(h:i<l.length):(l ++ m).getD i d=l.getD i d:=by rw[J_gd,List.getElem?_append_left h,J_gd]
theorem K_cr{α:Type}(l:List α)(a d:α){n:Nat}(h:l.length=n):(l ++ [a]).getD n d=a:=by rw[J_gd,List.getElem?_append_right (by omega),h,Nat.sub_self];rfl
theorem K_1el(c:List F)(sv:Sl):(shareC c sv).length=5:=rfl
theorem ShAt.push{B:Nat}{w:World}{all:Sl}{svs:List Sl}{L:List (List F)}(h:ShAt B w all svs L)(hB:B≤w.heap.size)(hl:L.length≤1000){c:List F}{sv:Sl}(hs:BSrc w sv (valsP c))(hf:∀ q,sv.a=some q→all.blk≠some q.block∧B≤q.block∧q.block<w.heap.size):
  ∃ w1 s' w',bldS prog 108 1 #[(0,.agg (shareC c sv).toArray)] w=some (⟨some ⟨w.heap.size,0,none⟩,1,1⟩,w1)∧apd prog 108 108 (.slice all.a all.len all.cap) (.slice (some ⟨w.heap.size,0,none⟩) 1 1) w1=some (s',w')∧ShAt B w' s' (svs ++ [sv]) (L ++ [c])∧Upd (fun k=>all.blk=some k) w w'∧∀ k,s'.blk=some k→all.blk=some k∨w.heap.size≤k:=by
 have hsz:=h.size
 obtain⟨w1,s',w',a1,a2,a3,a4,a5,a6⟩:=pushN manySh h.str.1 (cs:=(shareC c sv).toArray) (by omega) (by omega) rfl (fun v hv=>by
  simp only[shareC,shL,List.cons_append,List.nil_append,List.mem_cons,List.not_mem_nil,or_false]at hv
  rcases hv with rfl | rfl | rfl | rfl | rfl <;> rfl) (by omega)
 have q:=a5.size
 have hnb:∀ k,k<w.heap.size→all.blk≠some k→s'.blk≠some k:=fun k h1 h2 e=>(a6 k e).elim h2 fun e2=>by omega
 refine⟨w1,s',w',a1,a2,⟨by rw[List.length_append,List.length_append,h.len];rfl,⟨?_,?_,?_⟩,fun i hi=>?_,fun k hk=>(a6 k hk).elim (h.low k) fun e=>by omega,fun i hi q2 hq=>?_⟩,a5,a6⟩
 ·rw[List.zip_append h.len.symm,List.map_append,List.flatten_append]
  have e:((([c].zip [sv]).map fun p=>shareC p.1 p.2).flatten:List Value)=(shareC c sv).toArray.toList:=rfl
  rw[e];exact a4
 ·rw[a3,hsz,List.length_map,List.length_zip,List.length_append,List.length_append,h.len];exact(Nat.min_self _).symm
 ·intro x hx
  obtain⟨p,_,rfl⟩:=List.mem_map.1 hx
  rfl
 ·by_cases e:i<L.length
  ·rw[K_cy _ _ _ _ (by rw[h.len];exact e),K_cy _ _ _ _ e]
   exact Fw.Src.upd (h.src i e) a5 fun q hq=>(h.off i e q hq).1
  ·have hi2:i=L.length:=by rw[List.length_append]at hi;have:[c].length=1:=rfl;omega
   subst hi2
   rw[K_cr _ _ _ h.len,K_cr _ _ _ rfl]
   exact Fw.Src.upd hs a5 fun q hq=>(hf q hq).1
 ·have hh:all.blk≠some q2.block∧B≤q2.block∧q2.block<w.heap.size:=by
   by_cases e:i<L.length
   ·rw[K_cy _ _ _ _ (by rw[h.len];exact e)]at hq
    exact h.off i e q2 hq
   ·have hi2:i=L.length:=by rw[List.length_append]at hi;have:[c].length=1:=rfl;omega
    subst hi2
    rw[K_cr _ _ _ h.len]at hq
    exact hf q2 hq
  exact⟨hnb _ hh.2.2 hh.1,hh.2.1,by omega⟩
end Go.Sh

namespace Go.Sh
open Go.Fw Go.Gf Go.Sha Go.RowKit Go.Proofs.Tryd
theorem K_ao{T:List Nat}{r:List (List Nat)}(h:(mendR T).2=none):mendAll (T :: r)=((mendR T).1,[]):=by
 show (match (mendR T).2 with | none=>((mendR T).1,[]) | some x=>((mendAll r).1,x.1 :: (mendAll r).2))=_
 rw[h]
theorem K_as{T:List Nat}{r:List (List Nat)}{x:List F×Nat}(h:(mendR T).2=some x):mendAll (T :: r)=((mendAll r).1,x.1 :: (mendAll r).2):=by
 show (match (mendR T).2 with | none=>((mendR T).1,[]) | some x=>((mendAll r).1,x.1 :: (mendAll r).2))=_
 rw[h]
end Go.Sh

namespace Go.Sh
open Go.Fw Go.Gf Go.Sha Go.RowKit Go.Proofs.Tryd
def powsL(x:F)(n:Nat):List F:=(List.range n).map (F.pow x)
theorem K_ds(x:F)(n:Nat):(powsL x n).length=n:=by simp[powsL]
theorem K_15h(x:F)(n:Nat):powsL x (n+1)=powsL x n ++ [F.pow x n]:=by simp[powsL,List.range_succ]
theorem K_17y(x:F):∀ l m:List F,ev (l ++ m) x=ev l x+F.pow x l.length*ev m x
 | [],m=>by rw[List.nil_append,K_p3,F.zero_add];show _=(1:F)*_;rw[F.one_mul]
 | c :: l,m=>by
  rw[List.cons_append,K_40,K_17y x l m,K_40,F.mul_add,←F.add_assoc,List.length_cons,F.pow_succ,←F.mul_assoc,F.mul_comm (F.pow x l.length) x]
theorem K_1g0(x:F):∀ (n:Nat) (l:List F),l.length=n→dot (powsL x n) l=ev l x:=by
 intro n
 induction n with
 | zero=>intro l hl;rw[List.length_eq_zero_iff.1 hl];rfl
 | succ n ih=>
  intro l hl
  obtain⟨l,c,rfl⟩:∃ m c,l=m ++ [c]:=by
   rcases List.eq_nil_or_concat l with rfl | ⟨m,c,rfl⟩
   ·cases hl
   ·exact⟨m,c,by simp⟩
  have hm:l.length=n:=by simpa using hl
  rw[K_15h,K_ue _ _ _ _ (by rw[K_ds,hm]),ih l hm,K_17y,hm]
  have:dot [F.pow x n] [c]=F.pow x n*ev [c] x:=by
   rw[K_61,K_gj,F.add_zero,K_40,K_p3,F.mul_zero,F.add_zero]
  rw[this]
def rowE(n:Nat)(p:F×F):List F:=powsL p.1 n ++ [p.2]
theorem K_112(n:Nat)(p:F×F):(rowE n p).length=n+1:=by unfold rowE;rw[List.length_append,K_ds];rfl
theorem K_1a6{n:Nat}{l:List F}(hl:l.length=n)(p:F×F)(v:F):dot (rowE n p) (l ++ [v])=ev l p.1+p.2*v:=by
 unfold rowE
 rw[K_ue _ _ _ _ (by rw[K_ds,hl]),K_1g0 _ _ _ hl,K_61,K_gj,F.add_zero]
theorem K_1b1{n:Nat}{l:List F}(hl:l.length=n)(pts:List (F×F))(v:F):Z (pts.map (rowE n)) (l ++ [v])↔∀ p∈pts,ev l p.1=p.2*v:=by
 constructor
 ·intro h p hp
  have:=h _ (List.mem_map_of_mem hp)
  rw[K_1a6 hl]at this
  exact F.eq_of_add this
 ·intro h r hr
  obtain⟨p,hp,rfl⟩:=List.mem_map.1 hr
  rw[K_1a6 hl,h p hp,F.add_self]
def OnLine(pts:List (F×F))(n:Nat):Prop:=∀ p∈pts.drop n,lag (pts.take n) p.1=p.2
theorem K_1ep{pts:List (F×F)}{n:Nat}(hnd:(pts.map (·.1)).Nodup)(hn:n≤pts.length):
  match solve n (pts.map (rowE n)) with
  | some l=>l.length=n∧(∀ x,ev l x=lag (pts.take n) x)∧OnLine pts n
  | none=>¬OnLine pts n:=by
 have hnt:((pts.take n).map (·.1)).Nodup:=by rw[List.map_take];exact hnd.sublist (List.take_sublist _ _)
 have htl:(pts.take n).length=n:=by rw[List.length_take];omega
 have hl:∀ r∈pts.map (rowE n),r.length=n+1:=fun r hr=>by obtain⟨p,_,rfl⟩:=List.mem_map.1 hr;exact K_112 _ _
 have hker:∀ y,y.length=n→Z (pts.map (rowE n)) (y ++ [0])→∀ v∈y,v=0:=fun y hy hz=>by
  have h:=(K_1b1 hy pts 0).1 hz
  refine K_12k ((pts.take n).map (·.1)) y hnt (by rw[List.length_map,htl,hy];exact Nat.le_refl _) fun r hr=>?_
  obtain⟨p,hp,rfl⟩:=List.mem_map.1 hr
  rw[h p (List.mem_of_mem_take hp),F.mul_zero]
 have hsp:=K_14a hl hker
 cases hs:solve n (pts.map (rowE n)) with
 | some l=>
  obtain⟨h1,h2⟩:=(hsp l).1 hs
  have h3:=(K_1b1 h1 pts 1).1 h2
  have h4:∀ p∈pts,ev l p.1=p.2:=fun p hp=>by rw[h3 p hp,F.mul_one]
  have h5:∀ x,lag (pts.take n) x=ev l x:=fun x=>K_1ex hnt (by rw[htl,←h1];exact IsPoly.ev l) (fun p hp=>h4 p (List.mem_of_mem_take hp)) x
  exact⟨h1,fun x=>(h5 x).symm,fun p hp=>by rw[h5];exact h4 p (List.mem_of_mem_drop hp)⟩
 | none=>
  intro hon
  obtain⟨l,h1,h2⟩:=K_1bl (pts.take n)
  rw[htl]at h1
  have:solve n (pts.map (rowE n))=some l:=(hsp l).2 ⟨h1,(K_1b1 h1 pts 1).2 fun p hp=>by
   rw[F.mul_one,←h2]
   have:p∈pts.take n ++ pts.drop n:=by rw[List.take_append_drop];exact hp
   rcases List.mem_append.1 this with e | e
   ·exact K_1fz hnt e
   ·exact hon p e⟩
  rw[hs]at this;cases this
end Go.Sh

namespace Go.Sh
open Go.Fw Go.Gf Go.Sha Go.RowKit Go.Proofs.Tryd
structure ShSrc(N:Nat) (w:World) (s:Sl) (svs:List Sl) (L:List (List F)):Prop where
 len:s.len=L.length
 cap:s.len≤s.cap
 sl:svs.length=L.length
 cells:L≠[]→∃ g o cs,s.a=some ⟨g,o,none⟩∧g<N∧Bk 102 w g cs∧∀ i,i<L.length→∀ j,j<5→cs[o+i*5+j]? =(shareC (L.getD i []) (svs.getD i nilF))[j]?
 src:∀ i,i<L.length→BSrc w (svs.getD i nilF) (valsP (L.getD i []))
 vlt:∀ i,i<L.length→∀ q,(svs.getD i nilF).a=some q→q.block<N
theorem ShSrc.upd{N:Nat}{w w':World}{s:Sl}{svs:List Sl}{L:List (List F)}{X:Nat→Prop}(h:ShSrc N w s svs L)(u:Upd X w w')(hn:∀ k,k<N→¬X k):ShSrc N w' s svs L:=
 ⟨h.len,h.cap,h.sl,fun hL=>by
  obtain⟨g,o,cs,a1,a2,a3,a4⟩:=h.cells hL
  exact⟨g,o,cs,a1,a2,a3.upd u (hn g a2),a4⟩,fun i hi=>Fw.Src.upd (h.src i hi) u fun q hq=>hn _ (h.vlt i hi q hq),h.vlt⟩
theorem ShSrc.upd0{N:Nat}{w w':World}{s:Sl}{svs:List Sl}{L:List (List F)}(h:ShSrc N w s svs L)(u:Upd none_ w w'):ShSrc N w' s svs L:=h.upd u fun _ _=>id
theorem ShSrc.wide{N M:Nat}{w:World}{s:Sl}{svs:List Sl}{L:List (List F)}(h:ShSrc N w s svs L)(hM:N≤M):ShSrc M w s svs L:=
 ⟨h.len,h.cap,h.sl,fun hL=>by
  obtain⟨g,o,cs,a1,a2,a3,a4⟩:=h.cells hL
  exact⟨g,o,cs,a1,by omega,a3,a4⟩,h.src,fun i hi q hq=>Nat.lt_of_lt_of_le (h.vlt i hi q hq) hM⟩
theorem K_1jc{L:List (List F)}{svs:List Sl}(h:svs.length=L.length){i:Nat}(hi:i<L.length):((L.zip svs).map fun p=>shareC p.1 p.2).getD i []=shareC (L.getD i []) (svs.getD i nilF):=by
 rw[J_gd,List.getElem?_map,J_ge (by rw[List.length_zip];omega),List.getElem_zip,J_gd,J_ge hi,J_gd,J_ge (by omega)]
 rfl
theorem OwnN.cap{e:TypeId}{n:Nat}{w:World}{s:Sl}{xs:List Value}(h:OwnN e n w s xs):s.len≤s.cap:=by
 rcases h.2 with ⟨_,h2⟩ | ⟨g,cap,cur,h1,_,h2,h3,_⟩
 ·omega
 ·injection h1 with e1 e2 e3
  omega
theorem ShAt.read{B:Nat}{w:World}{all:Sl}{svs:List Sl}{L:List (List F)}(h:ShAt B w all svs L):ShSrc w.heap.size w all svs L:=by
 refine⟨h.size,h.str.1.cap,h.len,fun hL=>?_,h.src,fun i hi q hq=>(h.off i hi q hq).2.2⟩
 have hpos:0<L.length:=List.length_pos_iff.2 hL
 have hzl:((L.zip svs).map fun p=>shareC p.1 p.2).length=L.length:=by rw[List.length_map,List.length_zip,h.len,Nat.min_self]
 obtain⟨g,cs,a1,a2,_⟩:=h.str.at (i:=0) (by rw[hzl];exact hpos)
 refine⟨g,0,cs,a1,a2.lt,a2,fun i hi j hj=>?_⟩
 obtain⟨g2,cs2,b1,b2,_,b4⟩:=h.str.at (i:=i) (by rw[hzl];exact hi)
 rw[b1]at a1
 have hg:g2=g:=by injection Option.some.inj a1
 subst hg
 have:cs2=cs:=by
  have:some (Obj.cells cs2.toArray 102 (0,0))=some (Obj.cells cs.toArray 102 (0,0)):=b2.symm.trans a2
  injection this with this
  injection this with this
  simpa using this
 rw[←this,Nat.zero_add,b4 j hj,K_1jc h.len hi]
theorem K_1ee(c:List F)(sv:Sl):∀ v∈shareC c sv,v.oneCell'=true:=fun v hv=>K_ew _ _ _ _ _ v hv
theorem ShSrc.ld{N:Nat}{w:World}{s:Sl}{svs:List Sl}{L:List (List F)}(h:ShSrc N w s svs L){i:Nat}(hi:i<L.length):
  ∃ p,s.a=some p∧ldA 5 (p.add (i*5)) w=some (shareC (L.getD i []) (svs.getD i nilF)).toArray∧ldI .u16 (((p.add (i*5)).add 0).add 0) w=some ((setN (L.getD i []):Nat):Int)∧ldI .i64 (((p.add (i*5)).add 0).add 1) w=some ((bAt (L.getD i []) 2:Nat):Int)∧ldI .i64 (((p.add (i*5)).add 0).add 2) w=some ((bAt (L.getD i []) 3:Nat):Int)∧ldI .i64 (((p.add (i*5)).add 0).add 3) w=some ((bAt (L.getD i []) 4:Nat):Int)∧ldS ((p.add (i*5)).add 4) w=some (svs.getD i nilF):=by
 obtain⟨g,o,cs,a1,a2,a3,a4⟩:=h.cells (fun e=>by rw[e]at hi;exact Nat.not_lt_zero i hi)
 refine⟨⟨g,o,none⟩,a1,?_,?_,?_,?_,?_,?_⟩
 ·have h4:=a4 i hi 4 (by omega)
  have hlen:o+i*5+4<cs.length:=(List.getElem?_eq_some_iff.1 (h4.trans rfl)).1
  rw[add_lit,a3.ldA (by omega)]
  congr 2
  apply List.ext_getElem?
  intro j
  rw[List.getElem?_take]
  split
  ·rename_i hj
   rw[List.getElem?_drop,a4 i hi j hj]
  ·rename_i hj
   rw[List.getElem?_eq_none (by rw[K_1el];omega)]
 ·simp only[add_lit,Nat.add_zero];exact a3.ldI (a4 i hi 0 (by omega))
 ·simp only[add_lit,Nat.add_zero];exact a3.ldI (a4 i hi 1 (by omega))
 ·simp only[add_lit,Nat.add_zero];exact a3.ldI (a4 i hi 2 (by omega))
 ·simp only[add_lit,Nat.add_zero];exact a3.ldI (a4 i hi 3 (by omega))
 ·simp only[add_lit,Nat.add_zero];exact a3.ldS (a4 i hi 4 (by omega))
theorem K_e0{α:Type}(l:List α)(n i:Nat)(d:α)(h:i<n):(l.take n).getD i d=l.getD i d:=by rw[J_gd,List.getElem?_take_of_lt h,J_gd]
theorem K_k5{α:Type}(l:List α)(n i:Nat)(d:α):(l.drop n).getD i d=l.getD (n+i) d:=by rw[J_gd,List.getElem?_drop,J_gd]
theorem ShSrc.take{N:Nat}{w:World}{s:Sl}{svs:List Sl}{L:List (List F)}(h:ShSrc N w s svs L){n:Nat}(hn:n≤L.length):ShSrc N w ⟨sla s.a 0 s.cap 5,n - 0,s.cap - 0⟩ (svs.take n) (L.take n):=by
 have hc:=h.cap
 have hl:=h.len
 have hs:=h.sl
 rw[sla_zero,Nat.sub_zero,Nat.sub_zero]
 refine⟨by rw[List.length_take];show n=_;omega,by show n≤s.cap;omega,by rw[List.length_take,List.length_take,hs],fun hL=>?_,fun i hi=>?_,fun i hi q hq=>?_⟩
 ·have hL0:L≠[]:=fun e=>hL (by rw[e,List.take_nil])
  obtain⟨g,o,cs,a1,a2,a3,a4⟩:=h.cells hL0
  refine⟨g,o,cs,a1,a2,a3,fun i hi j hj=>?_⟩
  rw[List.length_take]at hi
  rw[K_e0 _ _ _ _ (by omega),K_e0 _ _ _ _ (by omega)]
  exact a4 i (by omega) j hj
 ·rw[List.length_take]at hi
  rw[K_e0 _ _ _ _ (by omega),K_e0 _ _ _ _ (by omega)]
  exact h.src i (by omega)
 ·rw[List.length_take]at hi
  rw[K_e0 _ _ _ _ (by omega)]at hq
  exact h.vlt i (by omega) q hq
theorem ShSrc.drop{N:Nat}{w:World}{s:Sl}{svs:List Sl}{L:List (List F)}(h:ShSrc N w s svs L){n:Nat}(hn:n≤L.length):ShSrc N w ⟨sla s.a n s.cap 5,s.len - n,s.cap - n⟩ (svs.drop n) (L.drop n):=by
 have hc:=h.cap
 have hl:=h.len
 have hs:=h.sl
 refine⟨by rw[List.length_drop];show s.len - n=_;omega,by show s.len - n≤s.cap - n;omega,by rw[List.length_drop,List.length_drop,hs],fun hL=>?_,fun i hi=>?_,fun i hi q hq=>?_⟩
 ·have hL0:L≠[]:=fun e=>hL (by rw[e,List.drop_nil])
  have hlt:n<L.length:=by
   apply Classical.byContradiction
   intro hc2
   exact hL (List.drop_eq_nil_of_le (by omega))
  obtain⟨g,o,cs,a1,a2,a3,a4⟩:=h.cells hL0
  refine⟨g,o+n*5,cs,?_,a2,a3,fun i hi j hj=>?_⟩
  ·show sla s.a n s.cap 5=_
   unfold sla
   rw[if_neg (by omega),a1,Option.map_some,add_lit]
  ·rw[List.length_drop]at hi
   rw[K_k5,K_k5,←a4 (n+i) (by omega) j hj]
   congr 1
   rw[Nat.add_mul];omega
 ·rw[List.length_drop]at hi
  rw[K_k5,K_k5]
  exact h.src (n+i) (by omega)
 ·rw[List.length_drop]at hi
  rw[K_k5]at hq
  exact h.vlt (n+i) (by omega) q hq
theorem cpS(w:World)(c:List F)(sv:Sl):∃ w1 w2,newB z102 102 w=some (⟨w.heap.size,0,none⟩,w1)∧stA ⟨w.heap.size,0,none⟩ (shareC c sv).toArray w1=some w2∧Bk 102 w2 w.heap.size (shareC c sv)∧Upd none_ w w2∧w.heap.size<w2.heap.size:=by
 obtain⟨w1,a1,a2,a3,a4⟩:=K_9 z102 102 w
 have a2:Bk 102 w1 w.heap.size share0:=by rw[K_j8]at a2;exact a2
 obtain⟨w2,b1,b2,b3⟩:=a2.stA (o:=0) (vs:=(shareC c sv).toArray) (by simp[share0,shareC,shL]) (fun v hv=>K_1ee c sv v hv)
 have b2:Bk 102 w2 w.heap.size (shareC c sv):=b2
 have q:=b3.size
 exact⟨w1,w2,a1,b1,b2,a3.trans' b3 fun k hk e=>by omega,by omega⟩
theorem K_45{w:World}{g:Nat}{c:List F}{sv:Sl}(b:Bk 102 w g (shareC c sv)):
  ldA 5 (⟨g,0,none⟩:Addr) w=some (shareC c sv).toArray∧ldI .u16 (((⟨g,0,none⟩:Addr).add 0).add 0) w=some ((setN c:Nat):Int)∧ldI .i64 (((⟨g,0,none⟩:Addr).add 0).add 1) w=some ((bAt c 2:Nat):Int)∧ldI .i64 (((⟨g,0,none⟩:Addr).add 0).add 2) w=some ((bAt c 3:Nat):Int)∧ldI .i64 (((⟨g,0,none⟩:Addr).add 0).add 3) w=some ((bAt c 4:Nat):Int)∧ldS ((⟨g,0,none⟩:Addr).add 4) w=some sv:=by
 refine⟨?_,?_,?_,?_,?_,?_⟩
 ·have:=b.ldA (i:=0) (n:=5) (by simp[shareC,shL])
  exact this
 ·simp only[add_lit,Nat.zero_add];exact b.ldI rfl
 ·simp only[add_lit,Nat.zero_add];exact b.ldI rfl
 ·simp only[add_lit,Nat.zero_add];exact b.ldI rfl
 ·simp only[add_lit,Nat.zero_add];exact b.ldI rfl
 ·simp only[add_lit,Nat.zero_add];exact b.ldS rfl
end Go.Sh

namespace Go.Sh
open Go.Fw Go.Gf Go.Sha Go.RowKit Go.Proofs.Tryd
theorem K_1fa{K:Nat}{a b:Sl}{l m:List F}(hl:l.length=m.length)(hb:l.length≤1000000):
  ∀ (d i f:Nat) (w:World),i+d=l.length→d<f→BSrc w a l→BSrc w b m→∃ w',K_m K f a b ((l.length:Nat):Int) (i:Int) w=some (if l.drop i=m.drop i then .norm () else .ret (false,()),w')∧Upd none_ w w':=by
 intro d
 induction d with
 | zero=>
  intro i f w hi hf ha hbs
  obtain⟨f,rfl⟩:∃ q,f=q+1:=⟨f - 1,by omega⟩
  refine⟨w,?_,Upd.refl _ _⟩
  rw[List.drop_eq_nil_of_le (by omega),List.drop_eq_nil_of_le (by omega),if_pos rfl]
  show K_v K (K_m K f) a b ((l.length:Nat):Int) (i:Int) w=_
  unfold K_v
  rw[if_neg (by simp only[decide_eq_true_eq];omega)]
 | succ d ih=>
  intro i f w hi hf ha hbs
  obtain⟨f,rfl⟩:∃ q,f=q+1:=⟨f - 1,by omega⟩
  have hal:a.len=l.length:=by rw[ha.len,K_1]
  have hbl:b.len=m.length:=by rw[hbs.len,K_1]
  have ud:=(Upd.refl none_ w).drew
  have e3:IntKind.i64.wrap ((i:Int)+1)=((i+1:Nat):Int):=by rw[w64 (by omega) (by omega)];rfl
  have h1:i<l.length:=by omega
  have h2:i<m.length:=by omega
  obtain⟨p,p1,p2⟩:=K_1a (ha.upd0 ud) h1
  obtain⟨q,q1,q2⟩:=K_1a (hbs.upd0 ud) h2
  have c1:(0:Int)≤(i:Int)∧(i:Int)<((a.len:Nat):Int):=by omega
  have c2:(0:Int)≤(i:Int)∧(i:Int)<((b.len:Nat):Int):=by omega
  obtain⟨w',k1,k2⟩:=ih (i+1) f w.drew (by omega) (by omega) (ha.upd0 ud) (hbs.upd0 ud)
  have hd:(l.drop i=m.drop i)↔(l[i]=m[i]∧l.drop (i+1)=m.drop (i+1)):=by
   rw[List.drop_eq_getElem_cons h1,List.drop_eq_getElem_cons h2,List.cons.injEq]
  by_cases c:l[i]=m[i]
  ·refine⟨w',?_,k2.predrew⟩
   show K_v K (K_m K f) a b ((l.length:Nat):Int) (i:Int) w=_
   unfold K_v
   rw[if_pos (decide_eq_true (show (i:Int)<((l.length:Nat):Int) by omega)),p1,J_bs,if_pos c1,q1,J_bs,if_pos c2,J_tn,Nat.mul_one,p2,J_bs,q2,J_bs,if_neg (by rw[c];simp),e3,k1]
   by_cases e:l.drop (i+1)=m.drop (i+1)
   ·rw[if_pos e,if_pos (hd.2 ⟨c,e⟩)]
   ·rw[if_neg e,if_neg (fun h=>e (hd.1 h).2)]
  ·refine⟨w.drew,?_,ud⟩
   show K_v K (K_m K f) a b ((l.length:Nat):Int) (i:Int) w=_
   unfold K_v
   rw[if_pos (decide_eq_true (show (i:Int)<((l.length:Nat):Int) by omega)),p1,J_bs,if_pos c1,q1,J_bs,if_pos c2,J_tn,Nat.mul_one,p2,J_bs,q2,J_bs,if_pos (by rw[bne_iff_ne];exact fun e=>c (K_1g5 e)),if_neg (fun h=>c (hd.1 h).1)]
theorem K_12y{K:Nat}(hK:18446744073709551616≤K){w:World}{a b:Sl}{l m:List F}(ha:BSrc w a l)(hb:BSrc w b m)(hl:l.length≤1000000):
  ∃ w',K_17 K a b w=some ((decide (l=m),()),w')∧Upd none_ w w':=by
 have hal:a.len=l.length:=by rw[ha.len,K_1]
 have hbl:b.len=m.length:=by rw[hb.len,K_1]
 unfold K_17
 by_cases c:l.length=m.length
 ·obtain⟨w',k1,k2⟩:=K_1fa (K:=K) c hl l.length 0 K w (by omega) (by omega) ha hb
  have k1:K_m K K a b ((l.length:Nat):Int) 0 w=_:=k1
  refine⟨w',?_,k2⟩
  rw[if_neg (by rw[hal,hbl,c];simp),hal,k1,bnd_ok,List.drop_zero,List.drop_zero]
  by_cases e:l=m
  ·rw[if_pos e,decide_eq_true e]
  ·rw[if_neg e,decide_eq_false e]
 ·refine⟨w,?_,Upd.refl _ _⟩
  rw[if_pos (by rw[hal,hbl,bne_iff_ne];omega),decide_eq_false (fun e=>c (by rw[e]))]
def idxF(c:List F):F:=b8 (bAt c 3)
theorem K_1l5{K:Nat}(hK:300≤K){N:Nat}{s:Sl}{svs:List Sl}{L:List (List F)}(hL:L.length≤1000){i g:Nat}(hg:N≤g){c:List F}{sv:Sl}{x:F}{out a26:Sl}{a27 a28:Int}:
  ∀ (d k m:Nat) (w:World) (v:F),k+d=L.length→d<m→ShSrc N w s svs L→Bk 102 w g (shareC c sv)→
   ∃ w',K_1v K m s (bF x) out (i:Int) ⟨g,0,none⟩ (bF v) a26 a27 a28 s ((L.length:Nat):Int) (k:Int) w=some ((bF (wgt x (idxF c) i k ((L.drop k).map idxF) v),()),w')∧Upd none_ w w':=by
 intro d
 induction d with
 | zero=>
  intro k m w v hk hm hS hb
  obtain⟨m,rfl⟩:∃ q,m=q+1:=⟨m - 1,by omega⟩
  refine⟨w,?_,Upd.refl _ _⟩
  rw[List.drop_eq_nil_of_le (by omega)]
  show K_2j K (K_1v K m) s (bF x) out (i:Int) ⟨g,0,none⟩ (bF v) a26 a27 a28 s ((L.length:Nat):Int) (k:Int) w=_
  unfold K_2j
  rw[if_neg (by simp only[decide_eq_true_eq];omega)];rfl
 | succ d ih=>
  intro k m w v hk hm hS hb
  obtain⟨m,rfl⟩:∃ q,m=q+1:=⟨m - 1,by omega⟩
  have hkl:k<L.length:=by omega
  have e3:IntKind.i64.wrap ((k:Int)+1)=((k+1:Nat):Int):=by rw[w64 (by omega) (by omega)];rfl
  obtain⟨p,p1,p2,_⟩:=hS.ld hkl
  obtain⟨w1,w2,q1,q2,q3,q4,q5⟩:=cpS w (L.getD k []) (svs.getD k nilF)
  have hsz:(shareC (L.getD k []) (svs.getD k nilF)).toArray.size=5:=rfl
  have c1:(0:Int)≤(k:Int)∧(k:Int)<((s.len:Nat):Int):=by rw[hS.len];omega
  have hd:(L.drop k).map idxF=idxF (L.getD k []) :: (L.drop (k+1)).map idxF:=by
   rw[List.drop_eq_getElem_cons hkl,List.map_cons,J_gd,J_ge hkl];rfl
  have hw:wgt x (idxF c) i k ((L.drop k).map idxF) v=wgt x (idxF c) i (k+1) ((L.drop (k+1)).map idxF) (if k=i then v else v*((x+idxF (L.getD k []))*(idxF c+idxF (L.getD k [])).inv)):=by rw[hd];rfl
  rw[hw]
  by_cases c2:k=i
  ·rw[if_pos c2]
   obtain⟨w',k1,k2⟩:=ih (k+1) m w2 v (by omega) (by omega) (hS.upd0 q4) (hb.upd0 q4)
   refine⟨w',?_,q4.and0 k2⟩
   show K_2j K (K_1v K m) s (bF x) out (i:Int) ⟨g,0,none⟩ (bF v) a26 a27 a28 s ((L.length:Nat):Int) (k:Int) w=_
   unfold K_2j
   rw[if_pos (decide_eq_true (show (k:Int)<((L.length:Nat):Int) by omega)),p1,J_bs,if_pos c1,J_tn,p2,J_bs,q1,bnd_ok,if_pos hsz,q2,J_bs,if_neg (by rw[bne_iff_ne];omega),e3,k1]
  ·rw[if_neg c2]
   have u2:Upd none_ w w2.drew:=q4.drew
   obtain⟨w',k1,k2⟩:=ih (k+1) m w2.drew (v*((x+idxF (L.getD k []))*(idxF c+idxF (L.getD k [])).inv)) (by omega) (by omega) (hS.upd0 u2) (hb.upd0 u2)
   obtain⟨_,_,_,l3,_⟩:=K_45 q3.drew
   obtain⟨_,_,_,m3,_⟩:=K_45 (hb.upd0 u2)
   refine⟨w',?_,u2.and0 k2⟩
   show K_2j K (K_1v K m) s (bF x) out (i:Int) ⟨g,0,none⟩ (bF v) a26 a27 a28 s ((L.length:Nat):Int) (k:Int) w=_
   unfold K_2j
   have x1:bits .xor .u8 (bF x) (IntKind.u8.wrap ((bAt (L.getD k []) 3:Nat):Int))=bF (x+idxF (L.getD k [])):=by rw[K_7o];exact addF _ _
   have x2:bits .xor .u8 (IntKind.u8.wrap ((bAt c 3:Nat):Int)) (IntKind.u8.wrap ((bAt (L.getD k []) 3:Nat):Int))=bF (idxF c+idxF (L.getD k [])):=by rw[K_7o,K_7o];exact addF _ _
   rw[if_pos (decide_eq_true (show (k:Int)<((L.length:Nat):Int) by omega)),p1,J_bs,if_pos c1,J_tn,p2,J_bs,q1,bnd_ok,if_pos hsz,q2,J_bs,if_pos (by rw[bne_iff_ne];omega),l3,J_bs,m3,J_bs,J_bs,x1,x2,K_15b hK,J_bs,tm hK,J_bs,tm hK,J_bs,e3,k1]
theorem K_1k4{K:Nat}(hK:300≤K){s out a26 sv:Sl}{x wt:F}{a27 a28:Int}{V O:List F}(hVO:O.length=V.length)(hV:V.length≤1000)(hne:∀ q,sv.a=some q→out.blk≠some q.block):
  ∀ (d k m:Nat) (w:World),k+d=V.length→d<m→BSrc w sv V→OwnS 5 w out (fb (pless k O V wt))→
   ∃ w',K_2g K m s (bF x) out (bF wt) a26 a27 a28 sv ((V.length:Nat):Int) (k:Int) w=some ((),w')∧OwnS 5 w' out (fb (xorR O (V.map (wt* ·))))∧Upd (fun k=>out.blk=some k) w w':=by
 intro d
 induction d with
 | zero=>
  intro k m w hk hm hs ho
  obtain⟨m,rfl⟩:∃ q,m=q+1:=⟨m - 1,by omega⟩
  have e:pless k O V wt=xorR O (V.map (wt* ·)):=by
   unfold pless
   rw[List.take_of_length_le (by omega),List.take_of_length_le (by omega),List.drop_eq_nil_of_le (by omega),List.append_nil]
  rw[e]at ho
  refine⟨w,?_,ho,Upd.refl _ _⟩
  show K_5s K (K_2g K m) s (bF x) out (bF wt) a26 a27 a28 sv ((V.length:Nat):Int) (k:Int) w=_
  unfold K_5s
  rw[if_neg (by simp only[decide_eq_true_eq];omega)]
 | succ d ih=>
  intro k m w hk hm hs ho
  obtain⟨m,rfl⟩:∃ q,m=q+1:=⟨m - 1,by omega⟩
  have hkl:k<V.length:=by omega
  have e3:IntKind.i64.wrap ((k:Int)+1)=((k+1:Nat):Int):=by rw[w64 (by omega) (by omega)];rfl
  obtain⟨p,p1,p2⟩:=K_1a hs hkl
  have hpl:(pless k O V wt).length=O.length:=by
   unfold pless
   rw[List.length_append,xorR_length (by rw[List.length_map,List.length_take,List.length_take,hVO]),List.length_take,List.length_drop];omega
  have hod:=ho.drew
  obtain⟨q,q1,q2⟩:=K_ah hod (i:=k) (by rw[hpl,hVO];exact hkl)
  obtain⟨q',w3,r1,r2,r3,r4⟩:=K_eu hod (i:=k) (by rw[hpl,hVO];exact hkl) ((pless k O V wt).getD k 0+wt*V[k])
  have hol:out.len=O.length:=by rw[ho.len,K_1,hpl]
  have hsl:sv.len=V.length:=by rw[hs.len,K_1]
  have c1:(0:Int)≤(k:Int)∧(k:Int)<((sv.len:Nat):Int):=by omega
  have c2:(0:Int)≤(k:Int)∧(k:Int)<((out.len:Nat):Int):=by omega
  have hset:(pless k O V wt).set k ((pless k O V wt).getD k 0+wt*V[k])=pless (k+1) O V wt:=by
   rw[K_17z hVO (by omega),←K_17l hVO (by omega)]
   congr 2
   rw[J_gd,J_ge hkl];rfl
  obtain rfl:q'=q:=Option.some.inj (r1.symm.trans q1)
  rw[hset]at r3
  have u3:Upd (fun k=>out.blk=some k) w w3:=r4.predrew
  obtain⟨w',k1,k2,k3⟩:=ih (k+1) m w3 (by omega) (by omega) (Fw.Src.upd hs u3 fun q hq=>hne q hq) r3
  refine⟨w',?_,k2,u3.trans' k3 fun _ _ e=>e⟩
  show K_5s K (K_2g K m) s (bF x) out (bF wt) a26 a27 a28 sv ((V.length:Nat):Int) (k:Int) w=_
  unfold K_5s
  rw[if_pos (decide_eq_true (show (k:Int)<((V.length:Nat):Int) by omega)),p1,J_bs,if_pos c1,J_tn,Nat.mul_one,p2,J_bs,q1,J_bs,if_pos c2,q2,J_bs,tm hK,J_bs,J_bs,if_pos c2]
  dsimp only
  rw[addF,r2,J_bs,e3,k1]
def betG(all:List F)(x:F):Nat→List (List F)→List F→List F
 | _,[],O=>O
 | i,c :: r,O=>betG all x (i+1) r (xorR O ((valsP c).map (wgt x (idxF c) i 0 all 1* ·)))
theorem K_111(all:List F)(x:F){n:Nat}:∀ (L:List (List F)) (i:Nat) (O:List F),O.length=n→(∀ c∈L,(valsP c).length=n)→(betG all x i L O).length=n
 | [],_,O,h,_=>h
 | c :: r,i,O,h,hc=>K_111 all x r (i+1) _ (by rw[xorR_length (by rw[List.length_map,h,hc c (List.mem_cons_self ..)]),h]) fun c' h'=>hc c' (List.mem_cons_of_mem _ h')
theorem K_1b0(all:List F)(x:F){n:Nat}(v:Nat):∀ (L:List (List F)) (i:Nat) (O:List F),O.length=n→(∀ c∈L,(valsP c).length=n)→
  (betG all x i L O).getD v 0=lagG all x i (ptsL L v) (O.getD v 0)
 | [],_,O,h,_=>rfl
 | c :: r,i,O,h,hc=>by
  have hl:O.length=((valsP c).map (wgt x (idxF c) i 0 all 1* ·)).length:=by rw[List.length_map,h,hc c (List.mem_cons_self ..)]
  have ih:=K_1b0 all x v r (i+1) (xorR O ((valsP c).map (wgt x (idxF c) i 0 all 1* ·))) (by rw[xorR_length hl,h]) fun c' h'=>hc c' (List.mem_cons_of_mem _ h')
  show (betG all x (i+1) r _).getD v 0=_
  rw[ih,K_1hf _ hl,Gf.getD_map0 _ (F.mul_zero _)]
  rfl
theorem K_1fp{L:List (List F)}{n:Nat}(hc:∀ c∈L,(valsP c).length=n)(x:F):betG (L.map idxF) x 0 L (List.replicate n 0)=betwL L L.length n x:=by
 have hlen:=K_111 (L.map idxF) x L 0 (List.replicate n 0) List.length_replicate hc
 have hp:∀ v,(ptsL L v).map (·.1)=L.map idxF:=fun v=>by unfold ptsL;rw[List.map_map];rfl
 apply List.ext_getElem
 ·rw[hlen];simp[betwL]
 ·intro v h1 h2
  have h:=K_1b0 (L.map idxF) x v L 0 (List.replicate n 0) List.length_replicate hc
  rw[J_gd,J_ge h1,Option.getD_some]at h
  have e:(betwL L L.length n x)[v]=lag (ptsL L v) x:=by simp[betwL]
  rw[h,e]
  unfold lag
  rw[hp]
  congr 1
  rw[J_gd,List.getElem?_replicate]
  split <;> rfl
theorem K_1jo{K:Nat}(hK:18446744073709551616≤K){N n:Nat}{s:Sl}{svs:List Sl}{L:List (List F)}(hL:L.length≤1000)(hc:∀ c∈L,(valsP c).length=n)(hn:n≤1000){x:F}{out:Sl}(hob:∀ k,out.blk=some k→N≤k):
  ∀ (d i m:Nat) (w:World) (O:List F),i+d=L.length→d<m→N≤w.heap.size→O.length=n→ShSrc N w s svs L→OwnS 5 w out (fb O)→
   ∃ w',K_2d K m s (bF x) out s ((L.length:Nat):Int) (i:Int) w=some ((),w')∧OwnS 5 w' out (fb (betG (L.map idxF) x i (L.drop i) O))∧Upd (fun k=>out.blk=some k) w w':=by
 intro d
 induction d with
 | zero=>
  intro i m w O hi hm hN hO hS ho
  obtain⟨m,rfl⟩:∃ q,m=q+1:=⟨m - 1,by omega⟩
  refine⟨w,?_,by rw[List.drop_eq_nil_of_le (by omega)];exact ho,Upd.refl _ _⟩
  show K_5x K (K_2d K m) s (bF x) out s ((L.length:Nat):Int) (i:Int) w=_
  unfold K_5x
  rw[if_neg (by simp only[decide_eq_true_eq];omega)]
 | succ d ih=>
  intro i m w O hi hm hN hO hS ho
  obtain⟨m,rfl⟩:∃ q,m=q+1:=⟨m - 1,by omega⟩
  have hil:i<L.length:=by omega
  have e3:IntKind.i64.wrap ((i:Int)+1)=((i+1:Nat):Int):=by rw[w64 (by omega) (by omega)];rfl
  obtain⟨p,p1,p2,_⟩:=hS.ld hil
  obtain⟨w1,w2,q1,q2,q3,q4,q5⟩:=cpS w (L.getD i []) (svs.getD i nilF)
  have hsz:(shareC (L.getD i []) (svs.getD i nilF)).toArray.size=5:=rfl
  have c1:(0:Int)≤(i:Int)∧(i:Int)<((s.len:Nat):Int):=by rw[hS.len];omega
  have hmem:L.getD i []∈L:=by rw[J_gd,J_ge hil];exact List.getElem_mem hil
  have hV:=hc _ hmem
  have hd:L.drop i=L.getD i [] :: L.drop (i+1):=by
   rw[List.drop_eq_getElem_cons hil,J_gd,J_ge hil];rfl
  obtain⟨w3,r1,r2⟩:=K_1l5 (K:=K) (by omega) hL (i:=i) hN (c:=L.getD i []) (sv:=svs.getD i nilF) (x:=x) (out:=out) (a26:=s) (a27:=((L.length:Nat):Int)) (a28:=(i:Int)) L.length 0 K w2 1 (by omega) (by omega) (hS.upd0 q4) q3
  have r1:K_1v K K s (bF x) out (i:Int) ⟨w.heap.size,0,none⟩ 1 s ((L.length:Nat):Int) (i:Int) s ((L.length:Nat):Int) 0 w2=_:=r1
  have u3:=q4.and0 r2
  obtain⟨_,_,_,_,_,l5⟩:=K_45 (q3.upd0 r2)
  have hsrc:=(hS.upd0 u3).src i hil
  have hsl:(svs.getD i nilF).len=(valsP (L.getD i [])).length:=by rw[hsrc.len,K_1]
  have hp0:pless 0 O (valsP (L.getD i [])) (wgt x (idxF (L.getD i [])) i 0 (L.map idxF) 1)=O:=rfl
  obtain⟨w4,s1,s2,s3⟩:=K_1k4 (K:=K) (by omega) (s:=s) (out:=out) (a26:=s) (x:=x) (a27:=((L.length:Nat):Int)) (a28:=(i:Int)) (V:=valsP (L.getD i [])) (O:=O) (by omega) (by omega) (fun q hq e=>by have:=hS.vlt i hil q hq;have:=hob _ e;omega) (valsP (L.getD i [])).length 0 K w3 (by omega) (by omega) hsrc (by rw[hp0];exact ho.upd0 u3)
  have s1:K_2g K K s (bF x) out (bF (wgt x (idxF (L.getD i [])) i 0 (L.map idxF) 1)) s ((L.length:Nat):Int) (i:Int) (svs.getD i nilF) ((valsP (L.getD i [])).length:Int) 0 w3=_:=s1
  have u4:Upd (fun k=>out.blk=some k) w w4:=(u3.mono (T:=fun k=>out.blk=some k) fun _ _ e=>e.elim).trans' s3 fun _ _ e=>e
  have z4:=u4.size
  obtain⟨w',k1,k2,k3⟩:=ih (i+1) m w4 _ (by omega) (by omega) (by omega) (by rw[xorR_length (by rw[List.length_map];omega),hO]) (hS.upd u4 fun k hk e=>by have:=hob k e;omega) s2
  refine⟨w',?_,by rw[hd];exact k2,u4.trans' k3 fun _ _ e=>e⟩
  show K_5x K (K_2d K m) s (bF x) out s ((L.length:Nat):Int) (i:Int) w=_
  unfold K_5x
  rw[if_pos (decide_eq_true (show (i:Int)<((L.length:Nat):Int) by omega)),p1,J_bs,if_pos c1,J_tn,p2,J_bs,q1,bnd_ok,if_pos hsz,q2,J_bs,hS.len,r1,bnd_ok,l5,J_bs,hsl]
  dsimp only
  rw[List.drop_zero,s1,bnd_ok,e3,k1]
theorem K_1hk(w:World){n:Nat}(hn:n≤1099511627776):
  ∃ w',mkS prog 23 (.int .i64 (n:Int)) (.int .i64 (n:Int)) w=some (⟨some ⟨w.heap.size,0,none⟩,n,n⟩,w')∧OwnS 5 w' ⟨some ⟨w.heap.size,0,none⟩,n,n⟩ (ints .u8 (List.replicate n 0))∧Upd none_ w w':=by
 obtain⟨i,hi,hsz,hz,hby⟩:=sliceB.info
 obtain⟨w',hr,ho,hg⟩:=run_make_full (P:=prog) w 0 23 5 i (.int .u8 0) 1 sliceB.ht hi hz hsz .i64 .i64 n (by rw[hby];omega) (by simp only[maxLen];omega) (Nat.zero_le _)
 obtain⟨s,h1,h2,h3⟩:=OwnS.of_row ho
 have hs:s=⟨some ⟨w.heap.size,0,none⟩,n,n⟩:=by
  cases s
  simp only[Value.slice.injEq]at h1
  simp[←h1.1,←h1.2.1,←h1.2.2]
 have hc:(madeCells (Value.int .u8 0).cells (n*1)).toList=ints .u8 (List.replicate n 0):=by
  apply List.ext_getElem
  ·simp[madeCells]
  ·intro k h1 h2;simp[madeCells,Nat.mod_one,Value.cells]
 rw[hs,hc]at h3
 refine⟨w',?_,h3,(Upd.of_grown hg).mono fun k _ e=>by cases e⟩
 unfold mkS
 rw[hr]
theorem K_1in(n:Nat):fb (List.replicate n 0)=ints .u8 (List.replicate n 0):=by unfold fb;rw[List.map_replicate];rfl
theorem K_1er(L:List (List F)){need:Nat}(h:need≤L.length)(n:Nat)(x:F):betwL (L.take need) (L.take need).length n x=betwL L need n x:=by
 unfold betwL
 rw[List.take_length]
theorem K_to{K:Nat}(hK:18446744073709551616≤K){w:World}{N n need:Nat}{s:Sl}{svs:List Sl}{L:List (List F)}(hS:ShSrc N w s svs L)(hN:N≤w.heap.size)(h0:1≤need)(hneed:need≤L.length)(hb:bAt (L.getD 0 []) 2=need)(hL:L.length≤1000)(hc:∀ c∈L,(valsP c).length=n)(hn:n≤1000)(x:F):
  ∃ s' w',K_1c K s (bF x) w=some ((s',()),w')∧OwnS 5 w' s' (fb (betwL L need n x))∧Upd none_ w w'∧Fresh w.heap.size s'∧s'.len=n:=by
 have h0l:0<L.length:=by omega
 obtain⟨p,p1,_,_,p2,_⟩:=hS.ld (i:=0) h0l
 have hT:=hS.take hneed
 have htl:(L.take need).length=need:=by rw[List.length_take];omega
 obtain⟨p',p1',_,_,_,_,_,p3⟩:=hT.ld (i:=0) (by omega)
 have hsz:=hS.len
 have hcap:=hS.cap
 have hmem:L.getD 0 []∈L:=by rw[J_gd,J_ge h0l];exact List.getElem_mem h0l
 rw[K_e0 _ _ _ _ (by omega)]at p3
 have hsl:(svs.getD 0 nilF).len=n:=by rw[(hS.src 0 h0l).len,K_1,hc _ hmem]
 obtain⟨w1,m1,m2,m3⟩:=K_1hk w (n:=n) (by omega)
 rw[←K_1in]at m2
 obtain⟨w2,k1,k2,k3⟩:=K_1jo hK (N:=N) (n:=n) (by omega) (fun c h=>hc c (List.mem_of_mem_take h)) hn (x:=x) (out:=⟨some ⟨w.heap.size,0,none⟩,n,n⟩) (fun k e=>by have e:w.heap.size=k:=Option.some.inj e;omega) (L.take need).length 0 K w1 _ (by omega) (by omega) (Nat.le_trans hN m3.size) List.length_replicate (hT.upd0 m3) m2
 rw[List.drop_zero,K_1fp (fun c h=>hc c (List.mem_of_mem_take h)),K_1er L hneed]at k2
 have hl2:(((need - 0:Nat)):Int)=(((L.take need).length:Nat):Int):=by omega
 have k1:K_2d K K ⟨sla s.a 0 s.cap 5,need - 0,s.cap - 0⟩ (bF x) ⟨some ⟨w.heap.size,0,none⟩,n,n⟩ ⟨sla s.a 0 s.cap 5,need - 0,s.cap - 0⟩ (((L.take need).length:Nat):Int) 0 w1=_:=k1
 refine⟨_,w2,?_,k2,m3.trans' k3 fun k hk e=>by have e:w.heap.size=k:=Option.some.inj e;omega,fun k e=>by have e:w.heap.size=k:=Option.some.inj e;omega,rfl⟩
 unfold K_1c
 have c1:(0:Int)≤0∧(0:Int)<((s.len:Nat):Int):=by omega
 have c2:(0:Int)≤((need:Nat):Int)∧((need:Nat):Int)≤((s.cap:Nat):Int):=by omega
 have c3:(0:Int)≤0∧(0:Int)<(((need - 0:Nat)):Int):=by omega
 have p1':sla s.a 0 s.cap 5=some p':=p1'
 rw[p1,J_bs,if_pos c1,p2,J_bs,hb,if_pos c2,J_tn,←p1,p1',J_bs,if_pos c3,p3,J_bs,hsl,m1,bnd_ok,←p1',hl2,k1,bnd_ok]
end Go.Sh

namespace Go.Sh
open Go.Fw Go.Gf Go.Sha Go.RowKit Go.Proofs.Tryd
theorem K_6g(L:List (List F))(need n:Nat)(x:F):(betwL L need n x).length=n:=by simp[betwL]
theorem K_1ly{K:Nat}(hK:18446744073709551616≤K){N n need:Nat}{s a12:Sl}{svs svd:List Sl}{L D:List (List F)}(h0:1≤need)(hneed:need≤L.length)(hb:bAt (L.getD 0 []) 2=need)(hL:L.length≤1000)(hD:D.length≤1000)(hc:∀ c∈L,(valsP c).length=n)(hn:n≤1000):
  ∀ (d i m:Nat) (w:World),i+d=D.length→d<m→N≤w.heap.size→ShSrc N w s svs L→ShSrc N w a12 svd D→
   ∃ w',K_46 K m s a12 ((D.length:Nat):Int) (i:Int) w=some (if ∀ c∈D.drop i,betwL L need n (idxF c)=valsP c then .norm () else .ret (117,()),w')∧Upd none_ w w':=by
 intro d
 induction d with
 | zero=>
  intro i m w hi hm hN hS hA
  obtain⟨m,rfl⟩:∃ q,m=q+1:=⟨m - 1,by omega⟩
  refine⟨w,?_,Upd.refl _ _⟩
  rw[List.drop_eq_nil_of_le (by omega),if_pos (fun c h=>by cases h)]
  show K_5d K (K_46 K m) s a12 ((D.length:Nat):Int) (i:Int) w=_
  unfold K_5d
  rw[if_neg (by simp only[decide_eq_true_eq];omega)]
 | succ d ih=>
  intro i m w hi hm hN hS hA
  obtain⟨m,rfl⟩:∃ q,m=q+1:=⟨m - 1,by omega⟩
  have hil:i<D.length:=by omega
  have e3:IntKind.i64.wrap ((i:Int)+1)=((i+1:Nat):Int):=by rw[w64 (by omega) (by omega)];rfl
  obtain⟨p,p1,p2,_⟩:=hA.ld hil
  obtain⟨w1,w2,q1,q2,q3,q4,q5⟩:=cpS w (D.getD i []) (svd.getD i nilF)
  have hsz:(shareC (D.getD i []) (svd.getD i nilF)).toArray.size=5:=rfl
  have c1:(0:Int)≤(i:Int)∧(i:Int)<((a12.len:Nat):Int):=by rw[hA.len];omega
  have u2:Upd none_ w w2.drew:=q4.drew
  obtain⟨_,_,_,l3,_,l5⟩:=K_45 q3.drew
  obtain⟨s',w3,r1,r2,r3,r4,r5⟩:=K_to hK (hS.upd0 u2) (Nat.le_trans hN u2.size) h0 hneed hb hL hc hn (idxF (D.getD i []))
  obtain⟨_,_,_,_,_,m5⟩:=K_45 (q3.drew.upd0 r3)
  have u3:=u2.and0 r3
  obtain⟨w4,t1,t2⟩:=K_12y hK (r2.src (K_k _)) ((hA.upd0 u3).src i hil) (by rw[K_6g];omega)
  have u4:=u3.and0 t2
  have hd:D.drop i=D.getD i [] :: D.drop (i+1):=by
   rw[List.drop_eq_getElem_cons hil,J_gd,J_ge hil];rfl
  have x1:IntKind.u8.wrap ((bAt (D.getD i []) 3:Nat):Int)=bF (idxF (D.getD i [])):=K_7o
  by_cases c:betwL L need n (idxF (D.getD i []))=valsP (D.getD i [])
  ·obtain⟨w',k1,k2⟩:=ih (i+1) m w4 (by omega) (by omega) (Nat.le_trans hN u4.size) (hS.upd0 u4) (hA.upd0 u4)
   refine⟨w',?_,u4.and0 k2⟩
   show K_5d K (K_46 K m) s a12 ((D.length:Nat):Int) (i:Int) w=_
   unfold K_5d
   rw[if_pos (decide_eq_true (show (i:Int)<((D.length:Nat):Int) by omega)),p1,J_bs,if_pos c1,J_tn,p2,J_bs,q1,bnd_ok,if_pos hsz,q2,J_bs,l3,J_bs,l5,J_bs,x1,r1,bnd_ok,m5,J_bs,K_a,t1,bnd_ok,decide_eq_true c,if_neg (by decide),e3,k1]
   by_cases e:∀ c∈D.drop (i+1),betwL L need n (idxF c)=valsP c
   ·rw[if_pos e,if_pos (by
     intro c' hc'
     rw[hd]at hc'
     rcases List.mem_cons.1 hc' with rfl | h
     ·exact c
     ·exact e c' h)]
   ·rw[if_neg e,if_neg (fun h=>e fun c' hc'=>h c' (by rw[hd];exact List.mem_cons_of_mem _ hc'))]
  ·refine⟨w4,?_,u4⟩
   show K_5d K (K_46 K m) s a12 ((D.length:Nat):Int) (i:Int) w=_
   unfold K_5d
   rw[if_pos (decide_eq_true (show (i:Int)<((D.length:Nat):Int) by omega)),p1,J_bs,if_pos c1,J_tn,p2,J_bs,q1,bnd_ok,if_pos hsz,q2,J_bs,l3,J_bs,l5,J_bs,x1,r1,bnd_ok,m5,J_bs,K_a,t1,bnd_ok,decide_eq_false c,if_pos (by decide),if_neg (fun h=>c (h _ (by rw[hd];exact List.mem_cons_self ..)))]
theorem K_1mp{K:Nat}(hK:18446744073709551616≤K){w:World}{C S:List Int}(T:Tabs w C S){N need size:Nat}{s:Sl}{svs:List Sl}{L:List (List F)}(hS:ShSrc N w s svs L)(hN:N≤w.heap.size)(h0:1≤need)(hneed:need≤L.length)(hb:bAt (L.getD 0 []) 2=need)(hz:bAt (L.getD 0 []) 4=size)(hL:L.length≤1000)(hc:∀ c∈L,(valsP c).length=size+4):
  ∃ w',K_ex K s w=some ((if fitL C S L (setN (L.getD 0 [])) need size then 0 else 117,()),w')∧Upd none_ w w':=by
 have h0l:0<L.length:=by omega
 have hzs:size<256:=by rw[←hz];exact K_2u _ _
 obtain⟨p,p1,_,pS,p2,_,pZ,_⟩:=hS.ld (i:=0) h0l
 have hD:=hS.drop hneed
 have hsl:=hS.len
 obtain⟨w1,k1,k2⟩:=K_1ly hK (N:=N) (n:=size+4) h0 hneed hb hL (D:=L.drop need) (by rw[List.length_drop];omega) hc (by omega) (L.drop need).length 0 K w (by omega) (by rw[List.length_drop];omega) hN hS hD
 have k1:K_46 K K s ⟨sla s.a need s.cap 5,s.len - need,s.cap - need⟩ (((L.drop need).length:Nat):Int) 0 w=_:=k1
 have hl2:(((s.len - need:Nat)):Int)=(((L.drop need).length:Nat):Int):=by rw[List.length_drop];omega
 have c1:(0:Int)≤0∧(0:Int)<((s.len:Nat):Int):=by omega
 have c2:(0:Int)≤((need:Nat):Int)∧((need:Nat):Int)≤((s.len:Nat):Int):=by omega
 unfold K_ex
 rw[p1,J_bs,if_pos c1,p2,J_bs,hb,if_pos c2,J_tn,hl2,←p1,k1,bnd_ok]
 by_cases c:∀ c∈L.drop need,betwL L need (size+4) (idxF c)=valsP c
 ·rw[List.drop_zero,if_pos c]
  dsimp only
  obtain⟨s',w2,r1,r2,r3,r4,r5⟩:=K_to hK (hS.upd0 k2) (Nat.le_trans hN k2.size) h0 hneed hb hL hc (by omega) 0
  have r1:K_1c K s 0 w1=_:=r1
  have u2:Upd none_ w w2.drew:=(k2.and0 r3).drew
  obtain⟨p',p1',_,pS',_,_,pZ',_⟩:=(hS.upd0 u2).ld (i:=0) h0l
  have hcap:=r2.cap
  have c3:(0:Int)≤((size:Nat):Int)∧((size:Nat):Int)≤((s'.cap:Nat):Int):=by omega
  have hsrc:BSrc w2.drew ⟨sla s'.a 0 s'.cap 1,size - 0,s'.cap - 0⟩ ((betwL L need (size+4) 0).take size):=by
   rw[sla_zero,Nat.sub_zero,Nat.sub_zero]
   have:=(r2.drew.src (K_k _)).cut (n:=size) (by omega)
   rw[K_jo]at this;exact this
  obtain⟨s3,w3,t1,t2,t3,t4⟩:=K_1lg hK (T.upd0 u2) (set:=setN (L.getD 0 [])) hsrc (by rw[List.length_take];omega)
  obtain⟨w4,v1,v2⟩:=K_12y hK (t2.src (K_k _)) ((r2.drew.upd0 t3).src (K_k _)) (by rw[K_1l8,List.length_take];omega)
  refine⟨w4,?_,(u2.and0 t3).and0 v2⟩
  rw[r1,bnd_ok,p1',J_bs,if_pos c1,J_bs,if_pos c1,pS',J_bs,pZ',J_bs,hz,if_pos c3,J_tn,t1,bnd_ok,v1,bnd_ok]
  by_cases e:betwL L need (size+4) 0=rowP C S (setN (L.getD 0 [])) ((betwL L need (size+4) 0).take size)
  ·rw[decide_eq_true e.symm,if_neg (by decide),if_pos (by unfold fitL;exact decide_eq_true ⟨c,e⟩)]
  ·rw[decide_eq_false (fun h=>e h.symm),if_pos (by decide),if_neg (fun h=>by unfold fitL at h;exact e (of_decide_eq_true h).2)]
 ·rw[List.drop_zero,if_neg c]
  dsimp only
  refine⟨w1,?_,k2⟩
  rw[if_neg (fun h=>by unfold fitL at h;exact c (of_decide_eq_true h).1)]
end Go.Sh

namespace Go.Fw
open Go.MapKept
def MapAt(w:World)(r:Nat)(l:List (Int×Value)):Prop:=∃ es clock,w.heap[r]? =some (.map es clock)∧es.toList.map (fun x=>(x.key,x.val))=l.map fun p=>(Value.int .i64 p.1,p.2)
theorem MapAt.lt{w:World}{r:Nat}{l:List (Int×Value)}(h:MapAt w r l):r<w.heap.size:=by
 obtain⟨es,clock,h1,_⟩:=h
 exact(Array.getElem?_eq_some_iff.1 h1).1
theorem MapAt.upd{S:Nat→Prop}{w w':World}{r:Nat}{l:List (Int×Value)}(h:MapAt w r l)(u:Upd S w w')(hn:¬S r):MapAt w' r l:=by
 have hl:=h.lt
 obtain⟨es,clock,h1,h2⟩:=h
 exact⟨es,clock,(u.block r hl hn).trans h1,h2⟩
theorem MapAt.upd0{w w':World}{r:Nat}{l:List (Int×Value)}(h:MapAt w r l)(u:Upd none_ w w'):MapAt w' r l:=h.upd u id
theorem K_1mh(P:Program)(t:TypeId)(w:World):∃ w',mmk P t none w=some (.map (some w.heap.size),w')∧MapAt w' w.heap.size []∧Upd none_ w w'∧w.heap.size<w'.heap.size:=by
 refine⟨w.alloc (.map #[] 0),rfl,⟨#[],0,heap_alloc_new w _,rfl⟩,Upd.alloc _ _ _,by simp⟩
def mapGet(l:List (Int×Value))(k:Int):Option Value:=(l.find? fun p=>p.1 == k).map (·.2)
theorem K_qh:∀ (es:List MapEntry) (l:List (Int×Value)) (i:Nat) (k:Int),es.map (fun x=>(x.key,x.val))=l.map (fun p=>(Value.int .i64 p.1,p.2))→
  match mapGet l k with
  | some v=>∃ j,Instr.findNow (.int .i64) (.int .i64 k) es i=some (some (j,v))
  | none=>Instr.findNow (.int .i64) (.int .i64 k) es i=some none
 | [],[],i,k,_=>rfl
 | [],p :: l,i,k,h=>by simp at h
 | e :: es,[],i,k,h=>by simp at h
 | e :: es,p :: l,i,k,h=>by
  rw[List.map_cons,List.map_cons]at h
  injection h with h1 h2
  injection h1 with h3 h4
  have ih:=K_qh es l (i+1) k h2
  obtain⟨a,v⟩:=p
  dsimp only at h3 h4
  unfold mapGet at ih ⊢
  rw[List.find?_cons]
  dsimp only
  by_cases c:a=k
  ·have c1:(a == k)=true:=by simp[c]
   have c2:(k == a)=true:=by simp[c]
   rw[c1]
   refine⟨i,?_⟩
   simp[Instr.findNow,h3,Instr.sameNow,c2,h4]
  ·have c1:(a == k)=false:=by simp[c]
   have c2:(k == a)=false:=by simp;exact fun e=>c e.symm
   rw[c1]
   have e:Instr.findNow (.int .i64) (.int .i64 k) (e :: es) i=Instr.findNow (.int .i64) (.int .i64 k) es (i+1):=by
    simp[Instr.findNow,h3,Instr.sameNow,c2]
   rw[e];exact ih
theorem K_1m6{P:Program}{t kt et:TypeId}(ht:P.underlying t=some (.map kt et))(hk:P.underlying kt=some (.int .i64)){z:Value}{w:World}(hz:(zeroValue et).run P w= .ok z w){r:Nat}{l:List (Int×Value)}(h:MapAt w r l)(k:Int):
  lkp P t (.map (some r)) (.int .i64 k) true w=some (.tuple #[(mapGet l k).getD z,.bool (mapGet l k).isSome],w):=by
 obtain⟨es,clock,hb,he⟩:=h
 have hf:=K_qh es.toList l 0 k he
 unfold lkp
 have hkey:IsKey (.int .i64) (.int .i64 k):=rfl
 cases hg:mapGet l k with
 | none=>
  rw[hg]at hf
  have hf:Instr.findNow (.int .i64) (.int .i64 k) es.toList 0=some none:=hf
  simp[Instr.lookup,run_underlying ht,MapKept.run_getObj_map hb,MapKept.run_checkKey hk hkey,MapKept.run_findKey hk hf,hz,Result.andThen]
 | some v=>
  rw[hg]at hf
  obtain⟨j,hf⟩:=hf
  simp[Instr.lookup,run_underlying ht,MapKept.run_getObj_map hb,MapKept.run_checkKey hk hkey,MapKept.run_findKey hk hf,Result.andThen]
theorem K_1jg{P:Program}{t kt et:TypeId}(ht:P.underlying t=some (.map kt et))(hk:P.underlying kt=some (.int .i64)){w:World}{r:Nat}{l:List (Int×Value)}(h:MapAt w r l)(k:Int)(v:Value)(hn:mapGet l k=none):
  ∃ w',mput P t (.map (some r)) (.int .i64 k) v w=some ((),w')∧MapAt w' r (l ++ [(k,v)])∧Upd (· =r) w w':=by
 obtain⟨es,clock,hb,he⟩:=h
 have hf:=K_qh es.toList l 0 k he
 rw[hn]at hf
 have hf:Instr.findNow (.int .i64) (.int .i64 k) es.toList 0=some none:=hf
 have hkey:IsKey (.int .i64) (.int .i64 k):=rfl
 have hs:=MapKept.heap_set (o':=Obj.map (es.push ⟨.int .i64 k,v,clock⟩) (clock+1)) hb
 refine⟨{w with heap:=w.heap.setIfInBounds r (.map (es.push ⟨.int .i64 k,v,clock⟩) (clock+1))},?_,⟨_,_,hs.1,?_⟩,⟨rfl,rfl,rfl,by simp,fun j _ hj=>hs.2 j hj⟩⟩
 ·unfold mput
  simp[Instr.mapUpdate,run_underlying ht,MapKept.run_getObj_map hb,MapKept.run_checkKey hk hkey,MapKept.run_findKey hk hf,MapKept.run_setObj_map _ hb,Result.andThen]
 ·simp[he]
theorem K_1iw{P:Program}{t:TypeId}{i:TypeInfo}{z:Value}(hi:P.info? t=some i)(hz:i.zero=some z)(w:World):(zeroValue t).run P w= .ok z w:=by
 simp[zeroValue,typeInfo,run_program,hi,hz,Result.andThen]
end Go.Fw

namespace Go.Sh
open Go.Fw Go.Gf Go.Sha Go.RowKit Go.Proofs.Tryd
theorem K_jy:∀ (Ts:List (List Nat)),∀ c∈(mendAll Ts).2,fitB c=true
 | [],c,h=>by cases h
 | T :: r,c,h=>by
  cases hr:(mendR T).2 with
  | none=>rw[K_ao hr]at h;cases h
  | some x=>
   rw[K_as hr]at h
   rcases List.mem_cons.1 h with rfl | h
   ·exact(K_up (c:=x.1) (n:=x.2) hr).2.1
   ·exact K_jy r c h
theorem K_jt:∀ (Ts:List (List Nat)),(mendAll Ts).2.length≤Ts.length
 | []=>Nat.le_refl _
 | T :: r=>by
  have:=K_jt r
  cases hr:(mendR T).2 with
  | none=>rw[K_ao hr];exact Nat.zero_le _
  | some x=>rw[K_as hr,List.length_cons,List.length_cons];omega
theorem K_gg{α:Type}{l:List α}{i:Nat}(d:α)(h:i<l.length):l.drop i=l.getD i d :: l.drop (i+1):=by
 rw[List.drop_eq_getElem_cons h,J_gd,J_ge h];rfl
def TextsL(ts:List ByteArray)(Ts:List (List Nat)):Prop:=Ts.length=ts.length∧∀ j,j<ts.length→IsText (ts.getD j str0) (Ts.getD j [])∧∀ c∈Ts.getD j [],c<256
theorem K_1jw{K:Nat}(hK:18446744073709551616≤K){a:Sl}{ts:List ByteArray}{Ts:List (List Nat)}(hT:TextsL ts Ts)(hl:ts.length≤1000){B:Nat}(hab:∀ q,a.a=some q→ts≠[]→q.block<B):
  ∀ (d i m:Nat) (w:World) (all:Sl) (svs:List Sl) (L:List (List F)),i+d=ts.length→d<m→B≤w.heap.size→Src w a (tx ts)→L.length=i→ShAt B w all svs L→
   ∃ w',Upd (fun k=>all.blk=some k) w w'∧if (mendAll (Ts.drop i)).1=0 then ∃ all' svs',K_y K m all a ((ts.length:Nat):Int) (i:Int) w=some (.norm (all',()),w')∧ShAt B w' all' svs' (L ++ (mendAll (Ts.drop i)).2)
    else K_y K m all a ((ts.length:Nat):Int) (i:Int) w=some (.ret (⟨none,0,0⟩,(mendAll (Ts.drop i)).1,()),w'):=by
 intro d
 induction d with
 | zero=>
  intro i m w all svs L hi hm hB hs hL hA
  obtain⟨m,rfl⟩:∃ q,m=q+1:=⟨m - 1,by omega⟩
  rw[List.drop_eq_nil_of_le (by have:=hT.1;omega)]
  refine⟨w,Upd.refl _ _,?_⟩
  rw[if_pos (show (mendAll []).1=0 from rfl)]
  refine⟨all,svs,?_,by show ShAt B w all svs (L ++ []);rw[List.append_nil];exact hA⟩
  show K_97 K (K_y K m) all a ((ts.length:Nat):Int) (i:Int) w=_
  unfold K_97
  rw[if_neg (by simp only[decide_eq_true_eq];omega)]
 | succ d ih=>
  intro i m w all svs L hi hm hB hs hL hA
  obtain⟨m,rfl⟩:∃ q,m=q+1:=⟨m - 1,by omega⟩
  have hil:i<ts.length:=by omega
  have hTl:=hT.1
  obtain⟨hT1,hT2⟩:=hT.2 i hil
  have e3:IntKind.i64.wrap ((i:Int)+1)=((i+1:Nat):Int):=by rw[w64 (by omega) (by omega)];rfl
  obtain⟨p,p1,p2⟩:=tx_at hs hil
  have hti:ts[i]=ts.getD i str0:=by rw[J_gd,J_ge hil];rfl
  have hal:a.len=ts.length:=by rw[hs.len,K_16]
  have c1:(0:Int)≤(i:Int)∧(i:Int)<((a.len:Nat):Int):=by omega
  have htne:ts≠[]:=fun e=>by rw[e]at hil;exact Nat.not_lt_zero i hil
  rw[hti]at p2
  obtain⟨cs,n,w1,a1,a2,a3⟩:=K_1fs hK w hT1 hT2
  have hd:Ts.drop i=Ts.getD i [] :: Ts.drop (i+1):=K_gg [] (by omega)
  have step:K_y K (m+1) all a ((ts.length:Nat):Int) (i:Int) w=(bnd (some ((cs,n,(mendR (Ts.getD i [])).1,()),w1):Option ((Array Value×Int×Int×Unit)×World)) fun r_3 w_4=>
    bnd (newB z102 102 w_4) fun s_5 w_6=>
    if (r_3.1).size=5 then((stA s_5 r_3.1 w_6).bind fun w_7=>
    if (r_3.2.2.1 != 0)=true then(some (.ret (⟨none,0,0⟩,r_3.2.2.1,()),w_7)) else((ldA 5 s_5 w_7).bind fun v_8=>
    bnd (bldS prog 108 1 #[(0,(.agg v_8))] w_7) fun s_9 w_10=>
    bnd (apd prog 108 108 (.slice all.a all.len all.cap) (.slice s_9.a s_9.len s_9.cap) w_10) fun s_11 w_12=>
    K_y K m s_11 a ((ts.length:Nat):Int) (IntKind.i64.wrap ((i:Int)+1)) w_12)) else none):=by
   show K_97 K (K_y K m) all a ((ts.length:Nat):Int) (i:Int) w=_
   unfold K_97
   rw[if_pos (decide_eq_true (show (i:Int)<((ts.length:Nat):Int) by omega)),p1,J_bs,if_pos c1,J_tn,Nat.mul_one,p2,J_bs,a1]
  cases hr:(mendR (Ts.getD i [])).2 with
  | none=>
   rw[hr]at a3
   obtain⟨_,h2⟩:=a3
   have hne:=K_13y hr
   have hM:mendAll (Ts.drop i)=((mendR (Ts.getD i [])).1,[]):=by rw[hd];exact K_ao hr
   obtain⟨w2,b1,b2,b3,b4⟩:=K_9 z102 102 w1
   have b2:Bk 102 w2 w1.heap.size share0:=by rw[K_j8]at b2;exact b2
   obtain⟨w3,c2,_,c3⟩:=b2.stA (o:=0) (vs:=share0.toArray) (by simp[share0,shL]) (fun v hv=>K_ew _ _ _ _ _ v hv)
   have hz:share0.toArray.size=5:=rfl
   refine⟨w3,(((a2.and0 b3).trans' c3 fun k hk e=>by have:=a2.size;omega).mono fun _ _ e=>e.elim),?_⟩
   rw[hM,if_neg hne,step,bnd_ok,b1,bnd_ok,h2,if_pos hz,c2,J_bs,if_pos (by rw[bne_iff_ne];exact hne)]
  | some r=>
   rw[hr]at a3
   obtain⟨_,sv,h2,h3,h4⟩:=a3
   obtain⟨he,hf,hl1,hl2⟩:=K_up (c:=r.1) (n:=r.2) hr
   have hvl:=K_ns hf
   have hM:mendAll (Ts.drop i)=((mendAll (Ts.drop (i+1))).1,r.1 :: (mendAll (Ts.drop (i+1))).2):=by rw[hd];exact K_as hr
   obtain⟨w2,w3,b1,b2,b3,b4,b5⟩:=cpS w1 r.1 sv
   have hz:(shareC r.1 sv).toArray.size=5:=rfl
   obtain⟨l1,_⟩:=K_45 b3
   have u3:=a2.and0 b4
   have z3:=u3.size
   have hs3:BSrc w3 sv (valsP r.1):=h3.upd0 b4
   have hvne:valsP r.1≠[]:=fun e=>by rw[e]at hvl;simp at hvl
   obtain⟨w4,s',w5,d1,d2,d3,d4,d5⟩:=(hA.upd0 u3).push (by omega) (by omega) hs3 (fun q hq=>by
    have h5:=h4 q.block (by simp[Sl.blk,hq])
    refine⟨fun e=>by have:=hA.str.1.lt e;omega,by omega,K_h5 hs3 q hq hvne⟩)
   have u5:Upd (fun k=>all.blk=some k) w w5:=(u3.mono (T:=fun k=>all.blk=some k) fun _ _ e=>e.elim).trans' d4 fun _ _ e=>e
   have z5:=u5.size
   obtain⟨w',k1,k2⟩:=ih (i+1) m w5 s' (svs ++ [sv]) (L ++ [r.1]) (by omega) (by omega) (by omega) (Fw.Src.upd hs u5 fun q hq e=>by have:=hab q hq htne;have:=hA.low _ e;omega) (by rw[List.length_append,hL];rfl) d3
   refine⟨w',u5.trans' k1 fun k hk e=>(d5 k e).elim id fun e2=>absurd hk (by omega),?_⟩
   have run:K_y K (m+1) all a ((ts.length:Nat):Int) (i:Int) w=K_y K m s' a ((ts.length:Nat):Int) ((i+1:Nat):Int) w5:=by
    rw[step,bnd_ok,b1,bnd_ok,h2,if_pos hz,b2,J_bs,if_neg (by rw[he];decide),l1,J_bs,d1,bnd_ok]
    dsimp only
    rw[d2,bnd_ok,e3]
   rw[hM,run]
   dsimp only
   by_cases c:(mendAll (Ts.drop (i+1))).1=0
   ·rw[if_pos c]at k2 ⊢
    obtain⟨all',svs',k3,k4⟩:=k2
    exact⟨all',svs',k3,by rw[List.append_assoc]at k4;exact k4⟩
   ·rw[if_neg c]at k2 ⊢
    exact k2
theorem K_1kx{K:Nat}{N:Nat}{s:Sl}{svs:List Sl}{L:List (List F)}(hL:L.length≤1000)(h0:0<L.length):
  ∀ (d i m:Nat) (w:World),i+d=L.length→d<m→ShSrc N w s svs L→
   ∃ w',K_2b K m s s ((L.length:Nat):Int) (i:Int) w=some (if (L.drop i).all (alikeB (L.getD 0 []))=true then .norm () else .ret (⟨none,0,0⟩,115,()),w')∧Upd none_ w w':=by
 intro d
 induction d with
 | zero=>
  intro i m w hi hm hS
  obtain⟨m,rfl⟩:∃ q,m=q+1:=⟨m - 1,by omega⟩
  refine⟨w,?_,Upd.refl _ _⟩
  rw[List.drop_eq_nil_of_le (by omega),if_pos List.all_nil]
  show K_8d K (K_2b K m) s s ((L.length:Nat):Int) (i:Int) w=_
  unfold K_8d
  rw[if_neg (by simp only[decide_eq_true_eq];omega)]
 | succ d ih=>
  intro i m w hi hm hS
  obtain⟨m,rfl⟩:∃ q,m=q+1:=⟨m - 1,by omega⟩
  have hil:i<L.length:=by omega
  have e3:IntKind.i64.wrap ((i:Int)+1)=((i+1:Nat):Int):=by rw[w64 (by omega) (by omega)];rfl
  obtain⟨p,p1,p2,_⟩:=hS.ld hil
  obtain⟨w1,w2,q1,q2,q3,q4,q5⟩:=cpS w (L.getD i []) (svs.getD i nilF)
  have hsz:(shareC (L.getD i []) (svs.getD i nilF)).toArray.size=5:=rfl
  have c1:(0:Int)≤(i:Int)∧(i:Int)<((s.len:Nat):Int):=by rw[hS.len];omega
  have c0:(0:Int)≤0∧(0:Int)<((s.len:Nat):Int):=by rw[hS.len];omega
  have u2:Upd none_ w w2.drew:=q4.drew
  obtain⟨_,l1,l2,_,l4,_⟩:=K_45 q3.drew
  obtain⟨p',p1',_,m1,m2,_,m4,_⟩:=(hS.upd0 u2).ld (i:=0) h0
  have hpp:p'=p:=Option.some.inj (p1'.symm.trans p1)
  subst hpp
  have hd:L.drop i=L.getD i [] :: L.drop (i+1):=K_gg [] hil
  have step:K_2b K (m+1) s s ((L.length:Nat):Int) (i:Int) w =
    if (((setN (L.getD i []):Nat):Int) != ((setN (L.getD 0 []):Nat):Int))=true then(some (.ret (⟨none,0,0⟩,115,()),w2.drew)) else
    if (((bAt (L.getD i []) 2:Nat):Int) != ((bAt (L.getD 0 []) 2:Nat):Int))=true then(some (.ret (⟨none,0,0⟩,115,()),w2.drew)) else
    if (((bAt (L.getD i []) 4:Nat):Int) != ((bAt (L.getD 0 []) 4:Nat):Int))=true then(some (.ret (⟨none,0,0⟩,115,()),w2.drew)) else K_2b K m s s ((L.length:Nat):Int) ((i+1:Nat):Int) w2.drew:=by
   show K_8d K (K_2b K m) s s ((L.length:Nat):Int) (i:Int) w=_
   unfold K_8d
   rw[if_pos (decide_eq_true (show (i:Int)<((L.length:Nat):Int) by omega)),p1,J_bs,if_pos c1,J_tn,p2,J_bs,q1,bnd_ok,if_pos hsz,q2,J_bs,J_bs,if_pos c0,l1,J_bs,m1,J_bs]
   congr 1
   rw[J_bs,if_pos c0,l2,J_bs,m2,J_bs]
   congr 1
   rw[J_bs,if_pos c0,l4,J_bs,m4,J_bs,e3]
  rw[step]
  by_cases h1:setN (L.getD i [])=setN (L.getD 0 [])
  ·rw[if_neg (by rw[bne_iff_ne];omega)]
   by_cases h2:bAt (L.getD i []) 2=bAt (L.getD 0 []) 2
   ·rw[if_neg (by rw[bne_iff_ne];omega)]
    by_cases h3:bAt (L.getD i []) 4=bAt (L.getD 0 []) 4
    ·rw[if_neg (by rw[bne_iff_ne];omega)]
     obtain⟨w',k1,k2⟩:=ih (i+1) m w2.drew (by omega) (by omega) (hS.upd0 u2)
     refine⟨w',?_,u2.and0 k2⟩
     rw[k1,hd,List.all_cons]
     have:alikeB (L.getD 0 []) (L.getD i [])=true:=decide_eq_true ⟨h1,h2,h3⟩
     rw[this,Bool.true_and]
    ·rw[if_pos (by rw[bne_iff_ne];omega),hd,List.all_cons]
     have:alikeB (L.getD 0 []) (L.getD i [])=false:=decide_eq_false fun h=>h3 h.2.2
     rw[this,Bool.false_and,if_neg (by decide)]
     exact⟨_,rfl,u2⟩
   ·rw[if_pos (by rw[bne_iff_ne];omega),hd,List.all_cons]
    have:alikeB (L.getD 0 []) (L.getD i [])=false:=decide_eq_false fun h=>h2 h.2.1
    rw[this,Bool.false_and,if_neg (by decide)]
    exact⟨_,rfl,u2⟩
  ·rw[if_pos (by rw[bne_iff_ne];omega),hd,List.all_cons]
   have:alikeB (L.getD 0 []) (L.getD i [])=false:=decide_eq_false fun h=>h1 h.1
   rw[this,Bool.false_and,if_neg (by decide)]
   exact⟨_,rfl,u2⟩
end Go.Sh

namespace Go.Sh
open Go.Fw Go.Gf Go.Sha Go.RowKit Go.Proofs.Tryd
def mapL(acc:List (List F))(svs:List Sl):List (Int×Value):=(acc.zip svs).map fun p=>(((bAt p.1 3:Nat):Int),Value.agg (shareC p.1 p.2).toArray)
theorem K_1ar:∀ (acc:List (List F)) (svs:List Sl) (b:Nat),svs.length=acc.length→
  match acc.find? (fun a=>bAt a 3 == b) with
  | none=>mapGet (mapL acc svs) (b:Int)=none
  | some a=>∃ j,j<acc.length∧acc.getD j []=a∧mapGet (mapL acc svs) (b:Int)=some (.agg (shareC a (svs.getD j nilF)).toArray)
 | [],svs,b,h=>rfl
 | a :: acc,[],b,h=>by simp at h
 | a :: acc,sv :: svs,b,h=>by
  have ih:=K_1ar acc svs b (by simpa using h)
  rw[List.find?_cons]
  have e:mapGet (mapL (a :: acc) (sv :: svs)) (b:Int)=if bAt a 3=b then some (.agg (shareC a sv).toArray) else mapGet (mapL acc svs) (b:Int):=by
   unfold mapGet mapL
   rw[List.zip_cons_cons,List.map_cons,List.find?_cons]
   dsimp only
   by_cases c:bAt a 3=b
   ·rw[if_pos c]
    have:((((bAt a 3:Nat):Int)) == (b:Int))=true:=by simp[c]
    rw[this];rfl
   ·rw[if_neg c]
    have:((((bAt a 3:Nat):Int)) == (b:Int))=false:=by simp;omega
    rw[this]
  by_cases c:bAt a 3=b
  ·have c1:(bAt a 3 == b)=true:=by simp[c]
   rw[c1]
   exact⟨0,by simp,rfl,by rw[e,if_pos c];rfl⟩
  ·have c1:(bAt a 3 == b)=false:=by simp[c]
   rw[c1]
   dsimp only
   rw[e,if_neg c]
   cases hf:acc.find? (fun a=>bAt a 3 == b) with
   | none=>rw[hf]at ih;exact ih
   | some x=>
    rw[hf]at ih
    obtain⟨j,h1,h2,h3⟩:=ih
    exact⟨j+1,by simpa using h1,h2,h3⟩
theorem K_1ff(acc:List (List F))(svs:List Sl)(h:svs.length=acc.length)(c:List F)(sv:Sl):mapL (acc ++ [c]) (svs ++ [sv])=mapL acc svs ++ [(((bAt c 3:Nat):Int),Value.agg (shareC c sv).toArray)]:=by
 unfold mapL
 rw[List.zip_append h.symm,List.map_append];rfl
theorem K_1dm:prog.underlying 133=some (.map 3 102):=by kernel_rfl
theorem K_1db:prog.underlying 3=some (.int .i64):=by kernel_rfl
theorem K_1et(w:World):(zeroValue 102).run prog w= .ok (.agg (shareC [] nilF).toArray) w:=by
 obtain⟨i,hi,_,hz,_⟩:=manySh.info
 rw[K_1iw hi hz,K_j8];rfl
theorem ShAt.updS{B:Nat}{w w':World}{all:Sl}{svs:List Sl}{L:List (List F)}{X:Nat→Prop}(h:ShAt B w all svs L)(u:Upd X w w')(h1:∀ k,all.blk=some k→¬X k)(h2:∀ i,i<L.length→∀ q,(svs.getD i nilF).a=some q→¬X q.block):ShAt B w' all svs L:=
 ⟨h.len,h.str.upd u fun k hk=>h1 k hk,fun i hi=>Fw.Src.upd (h.src i hi) u fun q hq=>h2 i hi q hq,h.low,fun i hi q hq=>⟨(h.off i hi q hq).1,(h.off i hi q hq).2.1,Nat.lt_of_lt_of_le (h.off i hi q hq).2.2 u.size⟩⟩
theorem K_1it{K:Nat}(hK:18446744073709551616≤K){w:World}{g1 g2:Nat}{c a:List F}{sv sa:Sl}(b1:Bk 102 w g1 (shareC c sv))(b2:Bk 102 w g2 (shareC a sa))(h1:BSrc w sv (valsP c))(h2:BSrc w sa (valsP a))(hl:(valsP a).length≤1000):
  ∃ w',K_4m K ⟨g1,0,none⟩ ⟨g2,0,none⟩ true w=some ((!decide (valsP a=valsP c),()),w')∧Upd none_ w w':=by
 obtain⟨_,_,_,_,_,l5⟩:=K_45 b1
 obtain⟨_,_,_,_,_,m5⟩:=K_45 b2
 obtain⟨w',k1,k2⟩:=K_12y hK h2 h1 (by omega)
 refine⟨w',?_,k2⟩
 unfold K_4m
 rw[if_pos rfl,m5,J_bs,l5,J_bs,k1,bnd_ok]
theorem K_yz{acc:List (List F)}{c a:List F}{r:List (List F)}(h:acc.find? (fun a=>bAt a 3 == bAt c 3)=some a):ownL acc (c :: r)=if valsP a=valsP c then ownL acc r else none:=by
 show (match acc.find? (fun a=>bAt a 3 == bAt c 3) with | some a=>if valsP a=valsP c then ownL acc r else none | none=>ownL (acc ++ [c]) r)=_
 rw[h]
theorem K_po{acc:List (List F)}{c:List F}{r:List (List F)}(h:acc.find? (fun a=>bAt a 3 == bAt c 3)=none):ownL acc (c :: r)=ownL (acc ++ [c]) r:=by
 show (match acc.find? (fun a=>bAt a 3 == bAt c 3) with | some a=>if valsP a=valsP c then ownL acc r else none | none=>ownL (acc ++ [c]) r)=_
 rw[h]
theorem K_1l4{K:Nat}(hK:18446744073709551616≤K){B B1 r:Nat}(hBB:B≤B1)(hr:B1≤r){s:Sl}{svs:List Sl}{L:List (List F)}(hL:L.length≤1000)(hv:∀ c∈L,(valsP c).length≤1000)(hoff:∀ i,i<L.length→∀ q,(svs.getD i nilF).a=some q→B≤q.block∧q.block<B1):
  ∀ (d i m:Nat) (w:World) (l:Sl) (svl:List Sl) (acc:List (List F)),i+d=L.length→d<m→B1≤w.heap.size→ShSrc B1 w s svs L→ShAt B w l svl acc→(∀ k,l.blk=some k→B1≤k∧k≠r)→(∀ j,j<acc.length→∀ q,(svl.getD j nilF).a=some q→q.block<B1)→MapAt w r (mapL acc svl)→acc.length≤i→(∀ c∈acc,(valsP c).length≤1000)→
   ∃ w',Upd (fun k=>l.blk=some k∨k=r) w w'∧match ownL acc (L.drop i) with
    | some l'=>∃ s' sv',K_h K m (.map (some r)) l s ((L.length:Nat):Int) (i:Int) w=some (.norm (s',()),w')∧ShAt B w' s' sv' l'
    | none=>K_h K m (.map (some r)) l s ((L.length:Nat):Int) (i:Int) w=some (.ret (⟨none,0,0⟩,116,()),w'):=by
 intro d
 induction d with
 | zero=>
  intro i m w l svl acc hi hm hB hS hA hl hvl hM hai hav
  obtain⟨m,rfl⟩:∃ q,m=q+1:=⟨m - 1,by omega⟩
  rw[List.drop_eq_nil_of_le (by omega)]
  refine⟨w,Upd.refl _ _,l,svl,?_,hA⟩
  show K_8m K (K_h K m) (.map (some r)) l s ((L.length:Nat):Int) (i:Int) w=_
  unfold K_8m
  rw[if_neg (by simp only[decide_eq_true_eq];omega)]
 | succ d ih=>
  intro i m w l svl acc hi hm hB hS hA hl hvl hM hai hav
  obtain⟨m,rfl⟩:∃ q,m=q+1:=⟨m - 1,by omega⟩
  have hil:i<L.length:=by omega
  have hrl:=hM.lt
  have e3:IntKind.i64.wrap ((i:Int)+1)=((i+1:Nat):Int):=by rw[w64 (by omega) (by omega)];rfl
  obtain⟨p,p1,p2,_⟩:=hS.ld hil
  obtain⟨w1,w2,q1,q2,q3,q4,q5⟩:=cpS w (L.getD i []) (svs.getD i nilF)
  have hsz:(shareC (L.getD i []) (svs.getD i nilF)).toArray.size=5:=rfl
  have c1:(0:Int)≤(i:Int)∧(i:Int)<((s.len:Nat):Int):=by rw[hS.len];omega
  obtain⟨l0,_,_,l3,_,_⟩:=K_45 q3
  have hd:L.drop i=L.getD i [] :: L.drop (i+1):=K_gg [] hil
  have hM2:=hM.upd0 q4
  have hg:=K_1ar acc svl (bAt (L.getD i []) 3) hA.len
  have hlk:=K_1m6 K_1dm K_1db (K_1et w2) hM2 ((bAt (L.getD i []) 3:Nat):Int)
  have hmem:L.getD i []∈L:=by rw[J_gd,J_ge hil];exact List.getElem_mem hil
  have step:∀ (cs:Array Value) (b:Bool),lkp prog 133 (.map (some r)) (.int .i64 ((bAt (L.getD i []) 3:Nat):Int)) true w2=some (.tuple #[.agg cs,.bool b],w2)→K_h K (m+1) (.map (some r)) l s ((L.length:Nat):Int) (i:Int) w =
    bnd (newB z102 102 w2) fun old_47 w_48=>
    if cs.size=5 then((stA old_47 cs w_48).bind fun w_49=>
    bnd (K_4m K ⟨w.heap.size,0,none⟩ old_47 b w_49) fun y_54 w_55=>
    if y_54.1=true then(some (.ret (⟨none,0,0⟩,116,()),w_55)) else(if (!b)=true then((ldI .i64 (((⟨w.heap.size,0,none⟩:Addr).add 0).add 2) w_55).bind fun v_56=>
    (ldA 5 ⟨w.heap.size,0,none⟩ w_55).bind fun v_57=>
    bnd (mput prog 133 (.map (some r)) (.int .i64 v_56) (.agg v_57) w_55) fun _ w_58=>
    (ldA 5 ⟨w.heap.size,0,none⟩ w_58).bind fun v_59=>
    bnd (bldS prog 108 1 #[(0,(.agg v_59))] w_58) fun s_60 w_61=>
    bnd (apd prog 108 108 (.slice l.a l.len l.cap) (.slice s_60.a s_60.len s_60.cap) w_61) fun s_62 w_63=>
    K_h K m (.map (some r)) s_62 s ((L.length:Nat):Int) ((i+1:Nat):Int) w_63) else(K_h K m (.map (some r)) l s ((L.length:Nat):Int) ((i+1:Nat):Int) w_55))) else none:=by
   intro cs b hk
   show K_8m K (K_h K m) (.map (some r)) l s ((L.length:Nat):Int) (i:Int) w=_
   unfold K_8m
   rw[if_pos (decide_eq_true (show (i:Int)<((L.length:Nat):Int) by omega)),p1,J_bs,if_pos c1,J_tn,p2,J_bs,q1,bnd_ok,if_pos hsz,q2,J_bs,l3,J_bs,hk,bnd_ok,e3]
   rfl
  cases hf:acc.find? (fun a=>bAt a 3 == bAt (L.getD i []) 3) with
  | some a=>
   rw[hf]at hg
   obtain⟨j,hj,hja,hgm⟩:=hg
   rw[hgm]at hlk
   have run:=step _ _ hlk
   obtain⟨w3,w4,b1,b2,b3,b4,b5⟩:=cpS w2 a (svl.getD j nilF)
   have hz:(shareC a (svl.getD j nilF)).toArray.size=5:=rfl
   have u4:=q4.and0 b4
   have hsa:=hA.src j hj
   rw[hja]at hsa
   have ham:a∈acc:=List.mem_of_find?_eq_some hf
   obtain⟨w5,t1,t2⟩:=K_1it hK (q3.upd0 b4) b3 ((hS.upd0 u4).src i hil) (hsa.upd0 u4) (hav a ham)
   have u5:=u4.and0 t2
   have z5:=u5.size
   rw[hd,K_yz hf]
   by_cases c:valsP a=valsP (L.getD i [])
   ·rw[if_pos c]
    obtain⟨w',k1,k2⟩:=ih (i+1) m w5 l svl acc (by omega) (by omega) (by omega) (hS.upd0 u5) (hA.upd0 u5) hl hvl (hM.upd0 u5) (by omega) hav
    have run2:K_h K (m+1) (.map (some r)) l s ((L.length:Nat):Int) (i:Int) w=K_h K m (.map (some r)) l s ((L.length:Nat):Int) ((i+1:Nat):Int) w5:=by
     rw[run,b1,bnd_ok,if_pos hz,b2,J_bs]
     show bnd (K_4m K ⟨w.heap.size,0,none⟩ ⟨w2.heap.size,0,none⟩ true w4) _=_
     rw[t1,bnd_ok,decide_eq_true c,if_neg (by decide),if_neg (by simp)]
    refine⟨w',(u5.mono (T:=fun k=>l.blk=some k∨k=r) fun _ _ e=>e.elim).trans' k1 fun _ _ e=>e,?_⟩
    rw[run2];exact k2
   ·rw[if_neg c]
    refine⟨w5,u5.mono fun _ _ e=>e.elim,?_⟩
    show K_h K (m+1) (.map (some r)) l s ((L.length:Nat):Int) (i:Int) w=_
    rw[run,b1,bnd_ok,if_pos hz,b2,J_bs]
    show bnd (K_4m K ⟨w.heap.size,0,none⟩ ⟨w2.heap.size,0,none⟩ true w4) _=_
    rw[t1,bnd_ok,decide_eq_false c,if_pos (by decide)]
  | none=>
   rw[hf]at hg
   have hg:mapGet (mapL acc svl) ((bAt (L.getD i []) 3:Nat):Int)=none:=hg
   rw[hg]at hlk
   have run:=step _ _ hlk
   obtain⟨w3,w4,b1,b2,b3,b4,b5⟩:=cpS w2 [] nilF
   have hz:(shareC [] nilF).toArray.size=5:=rfl
   have u4:=q4.and0 b4
   have z4:=u4.size
   have q34:=q3.upd0 b4
   obtain⟨n0,_,_,n3,_,_⟩:=K_45 q34
   obtain⟨w5,m1,m2,m3⟩:=K_1jg K_1dm K_1db (hM.upd0 u4) ((bAt (L.getD i []) 3:Nat):Int) (.agg (shareC (L.getD i []) (svs.getD i nilF)).toArray) hg
   have z5:=m3.size
   have q35:=q34.upd m3 (fun e=>by omega)
   obtain⟨o0,_⟩:=K_45 q35
   have u5:Upd (fun k=>l.blk=some k∨k=r) w w5:=(u4.mono (T:=fun k=>l.blk=some k∨k=r) fun _ _ e=>e.elim).trans' m3 fun _ _ e=>.inr e
   have hA5:=(hA.upd0 u4).updS m3 (fun k hk e=>(hl k hk).2 e) (fun j hj q hq e=>by have:=hvl j hj q hq;omega)
   have hS5:=(hS.upd0 u4).upd m3 (fun k hk e=>by omega)
   obtain⟨w6,s',w7,d1,d2,d3,d4,d5⟩:=hA5.push (by omega) (by omega) (hS5.src i hil) (fun q hq=>⟨fun e=>by have:=hl _ e;have:=hoff i hil q hq;omega,(hoff i hil q hq).1,by have:=(hoff i hil q hq).2;omega⟩)
   have z7:=d4.size
   have u7:Upd (fun k=>l.blk=some k∨k=r) w w7:=u5.trans' d4 fun _ _ e=>.inl e
   obtain⟨w',k1,k2⟩:=ih (i+1) m w7 s' (svl ++ [svs.getD i nilF]) (acc ++ [L.getD i []]) (by omega) (by omega) (by omega) (hS5.upd d4 fun k hk e=>by have:=hl _ e;omega) d3 (fun k hk=>(d5 k hk).elim (hl k) fun e=>by omega) (fun j hj q hq=>by
     by_cases e:j<acc.length
     ·rw[K_cy _ _ _ _ (by rw[hA.len];exact e)]at hq
      exact hvl j e q hq
     ·have hj2:j=acc.length:=by rw[List.length_append]at hj;have:[L.getD i []].length=1:=rfl;omega
      subst hj2
      rw[K_cr _ _ _ hA.len]at hq
      exact(hoff i hil q hq).2) (by rw[K_1ff _ _ hA.len];exact m2.upd d4 fun e=>(hl r e).2 rfl) (by rw[List.length_append];have:[L.getD i []].length=1:=rfl;omega) (fun c hc=>by
     rcases List.mem_append.1 hc with h | h
     ·exact hav c h
     ·rw[List.mem_singleton.1 h];exact hv _ hmem)
   have run2:K_h K (m+1) (.map (some r)) l s ((L.length:Nat):Int) (i:Int) w=K_h K m (.map (some r)) s' s ((L.length:Nat):Int) ((i+1:Nat):Int) w7:=by
    rw[run]
    rw[b1,bnd_ok]
    show (if ((shareC [] nilF).toArray).size=5 then _ else _)=_
    rw[if_pos hz]
    show ((stA ⟨w2.heap.size,0,none⟩ (shareC [] nilF).toArray w3).bind _)=_
    rw[b2,J_bs]
    show bnd (some ((false,()),w4)) _=_
    rw[bnd_ok,if_neg (by decide)]
    show (if (!false)=true then _ else _)=_
    rw[if_pos (by decide),n3,J_bs,n0,J_bs,m1,bnd_ok,o0,J_bs,d1,bnd_ok]
    dsimp only
    rw[d2,bnd_ok]
   refine⟨w',u7.trans' k1 fun k hk e=>e.elim (fun e=>(d5 k e).imp id fun e2=>absurd hk (by omega)) .inr,?_⟩
   rw[hd,K_po hf,run2];exact k2
end Go.Sh

namespace Go.Sh
open Go.Fw Go.Gf Go.Sha Go.RowKit Go.Proofs.Tryd
theorem K_yq:∀ (r acc l:List (List F)),ownL acc r=some l→(acc.map (bAt · 3)).Nodup→(l.map (bAt · 3)).Nodup∧∃ t,l=acc ++ t∧(∀ c∈t,c∈r)∧t.length≤r.length
 | [],acc,l,h,hn=>by
  obtain rfl:=Option.some.inj h
  exact⟨hn,[],by simp,(fun c h=>by cases h),Nat.le_refl _⟩
 | c :: r,acc,l,h,hn=>by
  cases hf:acc.find? (fun a=>bAt a 3 == bAt c 3) with
  | some a=>
   rw[K_yz hf]at h
   split at h
   ·obtain⟨h1,t,h2,h3,h4⟩:=K_yq r acc l h hn
    exact⟨h1,t,h2,fun x hx=>List.mem_cons_of_mem _ (h3 x hx),by rw[List.length_cons];omega⟩
   ·cases h
  | none=>
   rw[K_po hf]at h
   have hc:∀ a∈acc,bAt a 3≠bAt c 3:=fun a ha e=>by
    have:=List.find?_eq_none.1 hf a ha
    simp[e]at this
   obtain⟨h1,t,h2,h3,h4⟩:=K_yq r (acc ++ [c]) l h (by
    rw[List.map_append]
    refine List.nodup_append.2 ⟨hn,by simp,fun x hx y hy=>?_⟩
    obtain⟨a,ha,rfl⟩:=List.mem_map.1 hx
    have hy:y=bAt c 3:=by simpa using hy
    rw[hy];exact hc a ha)
   refine⟨h1,c :: t,by rw[h2,List.append_assoc];rfl,fun x hx=>?_,by rw[List.length_cons,List.length_cons];omega⟩
   rcases List.mem_cons.1 hx with rfl | hx
   ·exact List.mem_cons_self ..
   ·exact List.mem_cons_of_mem _ (h3 x hx)
structure Joined(C S:List Int) (L:List (List F)):Prop where
 fit:∀ c∈L,fitB c=true
 alike:∀ c∈L,alikeB (L.getD 0 []) c=true
 nodup:(L.map (bAt · 3)).Nodup
 enough:bAt (L.getD 0 []) 2≤L.length
 line:fitL C S L (setN (L.getD 0 [])) (bAt (L.getD 0 []) 2) (bAt (L.getD 0 []) 4)=true
 ne:0<L.length
theorem K_uj{a:List F}{r l:List (List F)}(h:ownL [] (a :: r)=some l):(l.map (bAt · 3)).Nodup∧l.getD 0 []=a∧0<l.length∧(∀ c∈l,c∈a :: r)∧l.length≤r.length+1:=by
 have e:ownL [] (a :: r)=ownL [a] r:=K_po rfl
 rw[e]at h
 obtain⟨h1,t,h2,h3,h4⟩:=K_yq r [a] l h (by simp)
 rw[h2]
 refine⟨by rw[←h2];exact h1,rfl,by simp,fun c hc=>?_,by simp;omega⟩
 rcases List.mem_append.1 hc with hc | hc
 ·rw[List.mem_singleton.1 hc];exact List.mem_cons_self ..
 ·exact List.mem_cons_of_mem _ (h3 c hc)
theorem K_xj{C S:List Int}{Ts:List (List Nat)}(h:(mendAll Ts).1≠0):joinR C S Ts=((mendAll Ts).1,[]):=by unfold joinR;rw[if_pos h]
theorem K_yk{C S:List Int}{Ts:List (List Nat)}(h:(mendAll Ts).1=0)(h2:(mendAll Ts).2=[]):joinR C S Ts=(114,[]):=by
 unfold joinR;rw[if_neg (fun e=>e h),h2]
theorem K_u8{C S:List Int}{Ts:List (List Nat)}{a:List F}{r:List (List F)}(h:(mendAll Ts).1=0)(h2:(mendAll Ts).2=a :: r):joinR C S Ts=if (a :: r).all (alikeB a)=false then((115:Int),[]) else
  match ownL [] (a :: r) with
  | none=>(116,[])
  | some l=>if l.length<bAt a 2 then(114,[]) else if fitL C S l (setN a) (bAt a 2) (bAt a 4)=false then(117,[]) else(0,l):=by
 unfold joinR;rw[if_neg (fun e=>e h),h2] <;> rfl
theorem K_mw{C S:List Int}{Ts:List (List Nat)}(h:(joinR C S Ts).1=0):Joined C S (joinR C S Ts).2∧(joinR C S Ts).2.length≤Ts.length:=by
 by_cases h1:(mendAll Ts).1=0
 ·cases h2:(mendAll Ts).2 with
  | nil=>rw[K_yk h1 h2]at h;cases h
  | cons a r=>
   have hj:=K_u8 (C:=C) (S:=S) h1 h2
   have hfit:=K_jy Ts
   have hlen:=K_jt Ts
   rw[h2]at hfit hlen
   rw[hj]at h ⊢
   split at h
   ·cases h
   ·rename_i h3
    rw[if_neg h3]
    cases ho:ownL [] (a :: r) with
    | none=>rw[ho]at h;cases h
    | some l=>
     rw[ho]at h
     dsimp only at h ⊢
     obtain⟨o1,o2,o3,o4,o5⟩:=K_uj ho
     split at h
     ·cases h
     ·rename_i h5
      rw[if_neg h5]
      split at h
      ·cases h
      ·rename_i h6
       rw[if_neg h6]
       have h6:fitL C S l (setN a) (bAt a 2) (bAt a 4)=true:=by simpa using h6
       have h3:(a :: r).all (alikeB a)=true:=by simpa using h3
       rw[List.length_cons]at hlen
       exact⟨⟨fun c hc=>hfit c (o4 c hc),fun c hc=>by rw[o2];exact List.all_eq_true.1 h3 c (o4 c hc),o1,by show bAt (l.getD 0 []) 2≤l.length;rw[o2];omega,by show fitL C S l (setN (l.getD 0 [])) (bAt (l.getD 0 []) 2) (bAt (l.getD 0 []) 4)=true;rw[o2];exact h6,o3⟩,by show l.length≤_;omega⟩
 ·rw[K_xj h1]at h;exact absurd h h1
theorem K_130{c:List F}(h:fitB c=true):1≤bAt c 2∧bAt c 2≤16∧1≤bAt c 3∧1≤bAt c 4∧bAt c 4≤64:=by
 rw[K_133,Bool.and_eq_true]at h
 exact of_decide_eq_true h.1
theorem K_pt{a c:List F}(hf:fitB c=true)(ha:alikeB a c=true):(valsP c).length=bAt a 4+4:=by
 rw[K_ns hf,(of_decide_eq_true ha).2.2]
theorem Joined.vals{C S:List Int}{L:List (List F)}(J:Joined C S L):∀ c∈L,(valsP c).length=bAt (L.getD 0 []) 4+4:=fun c hc=>K_pt (J.fit c hc) (J.alike c hc)
theorem Joined.mem0{C S:List Int}{L:List (List F)}(J:Joined C S L):L.getD 0 []∈L:=by rw[J_gd,J_ge J.ne];exact List.getElem_mem J.ne
theorem Joined.need{C S:List Int}{L:List (List F)}(J:Joined C S L):1≤bAt (L.getD 0 []) 2∧bAt (L.getD 0 []) 2≤16∧1≤bAt (L.getD 0 []) 3∧1≤bAt (L.getD 0 []) 4∧bAt (L.getD 0 []) 4≤64:=K_130 (J.fit _ J.mem0)
theorem K_1dg{K:Nat}(hK:18446744073709551616≤K){w:World}{C S:List Int}(T:Tabs w C S){a:Sl}{ts:List ByteArray}{Ts:List (List Nat)}(hT:TextsL ts Ts)(hl:ts.length≤1000)(hs:Src w a (tx ts))(hlt:∀ q,a.a=some q→ts≠[]→q.block<w.heap.size):
  ∃ s' w',K_ai K a w=some ((s',(joinR C S Ts).1,()),w')∧Upd none_ w w'∧((joinR C S Ts).1=0→∃ svs,ShSrc w'.heap.size w' s' svs (joinR C S Ts).2):=by
 have hal:a.len=ts.length:=by rw[hs.len,K_16]
 obtain⟨w1,u1,k1⟩:=K_1jw hK hT hl hlt ts.length 0 K w ⟨none,0,0⟩ [] [] (by omega) (by omega) (Nat.le_refl _) hs rfl (ShAt.nil _ _)
 have u1:Upd none_ w w1:=u1.mono fun k _ e=>by cases e
 rw[List.drop_zero,List.nil_append]at k1
 unfold K_ai
 rw[hal]
 by_cases h1:(mendAll Ts).1=0
 ·rw[if_pos h1]at k1
  obtain⟨all,svs,r1,hA⟩:=k1
  have r1:K_y K K ⟨none,0,0⟩ a ((ts.length:Nat):Int) 0 w=_:=r1
  have hsz:=hA.size
  have hlen:(mendAll Ts).2.length≤1000:=by have:=K_jt Ts;have:=hT.1;omega
  rw[r1,bnd_ok]
  dsimp only
  rw[hsz]
  cases h2:(mendAll Ts).2 with
  | nil=>
   rw[K_yk h1 h2]
   refine⟨nilF,w1,?_,u1,(fun e=>by cases e)⟩
   exact if_pos rfl
  | cons x r=>
   have hj:=K_u8 (C:=C) (S:=S) h1 h2
   rw[h2]at hA hlen
   have hfit:=K_jy Ts
   rw[h2]at hfit
   have hR:=hA.read
   rw[if_neg (by rw[beq_iff_eq,List.length_cons];omega)]
   obtain⟨w2,r2,u2⟩:=K_1kx (K:=K) hlen (by simp) (x :: r).length 0 K w1 (by omega) (by omega) hR
   have r2:K_2b K K all all (((x :: r).length:Nat):Int) 0 w1=_:=r2
   rw[r2,bnd_ok,List.drop_zero]
   have hx0:(x :: r).getD 0 []=x:=rfl
   rw[hx0]
   have u12:=u1.and0 u2
   by_cases h3:(x :: r).all (alikeB x)=true
   ·rw[if_pos h3]
    rw[if_neg (by rw[h3];decide)]at hj
    dsimp only
    obtain⟨w3,m1,m2,m3,m4⟩:=K_1mh prog 133 w2
    rw[m1,bnd_ok]
    have z2:=u2.size
    have z3:=m3.size
    have hvl:∀ c∈x :: r,(valsP c).length≤1000:=fun c hc=>by have:=K_ns (hfit c hc);have:=K_2u c 4;omega
    obtain⟨w4,u4,k4⟩:=K_1l4 hK (B:=w.heap.size) (B1:=w1.heap.size) (r:=w2.heap.size) u1.size z2 (s:=all) (svs:=svs) hlen hvl (fun i hi q hq=>(hA.off i hi q hq).2) (x :: r).length 0 K w3 ⟨none,0,0⟩ [] [] (by omega) (by omega) (by omega) ((hR.upd0 u2).upd0 m3) (ShAt.nil _ _) (fun k hk=>by cases hk) (fun j hj=>absurd hj (Nat.not_lt_zero j)) m2 (Nat.le_refl _) (fun c hc=>by cases hc)
    have u4:Upd none_ w w4:=(u12.and0 m3).trans' u4 fun k hk e=>by
     rcases e with e | e
     ·cases e
     ·have:=u12.size;omega
    rw[List.drop_zero]at k4
    cases ho:ownL [] (x :: r) with
    | none=>
     rw[ho]at k4 hj
     have k4:K_h K K (.map (some w2.heap.size)) ⟨none,0,0⟩ all (((x :: r).length:Nat):Int) 0 w3=_:=k4
     rw[hj]
     refine⟨nilF,w4,?_,u4,(fun e=>by cases e)⟩
     rw[k4,bnd_ok]
    | some l=>
     rw[ho]at k4 hj
     obtain⟨s',sv',k5,hA4⟩:=k4
     have k5:K_h K K (.map (some w2.heap.size)) ⟨none,0,0⟩ all (((x :: r).length:Nat):Int) 0 w3=_:=k5
     rw[k5,bnd_ok]
     dsimp only at hj ⊢
     obtain⟨o1,o2,o3,o4,o5⟩:=K_uj ho
     rw[List.length_cons]at hlen
     have hR4:=hA4.read
     have hl4:=hA4.size
     obtain⟨p,p1,_,_,p2,_⟩:=hR4.ld (i:=0) o3
     have c0:(0:Int)≤0∧(0:Int)<((s'.len:Nat):Int):=by omega
     rw[p1,J_bs,if_pos c0,p2,J_bs,o2,hl4]
     by_cases h5:l.length<bAt x 2
     ·rw[if_pos h5]at hj
      rw[hj]
      refine⟨nilF,w4,?_,u4,(fun e=>by cases e)⟩
      rw[if_pos (decide_eq_true (by omega))]
     ·rw[if_neg h5]at hj
      rw[if_neg (by simp only[decide_eq_true_eq];omega)]
      have hx:=hfit x (List.mem_cons_self ..)
      have hn:=K_130 hx
      have hlike:∀ c∈l,alikeB x c=true:=fun c hc=>List.all_eq_true.1 h3 c (o4 c hc)
      obtain⟨w5,f1,f2⟩:=K_1mp hK (T.upd0 u4) hR4 (Nat.le_refl _) hn.1 (by omega) (by rw[o2]) (by rw[o2]) (by omega) (fun c hc=>K_pt (hfit c (o4 c hc)) (hlike c hc))
      rw[o2]at f1
      rw[f1,bnd_ok]
      by_cases h6:fitL C S l (setN x) (bAt x 2) (bAt x 4)=true
      ·rw[if_neg (by rw[h6];decide)]at hj
       rw[hj]
       refine⟨_,w5,?_,u4.and0 f2,fun _=>⟨sv',(hR4.upd0 f2).wide f2.size⟩⟩
       rw[if_pos h6]
      ·rw[if_pos (by simpa using h6)]at hj
       rw[hj]
       refine⟨s',w5,?_,u4.and0 f2,(fun e=>by cases e)⟩
       rw[if_neg h6]
   ·rw[if_neg h3]
    rw[if_pos (by simpa using h3)]at hj
    rw[hj]
    exact⟨nilF,w2,rfl,u12,(fun e=>by cases e)⟩
 ·rw[if_neg h1]at k1
  have k1:K_y K K ⟨none,0,0⟩ a ((ts.length:Nat):Int) 0 w=_:=k1
  rw[K_xj h1]
  refine⟨nilF,w1,?_,u1,fun e=>absurd e h1⟩
  rw[k1,bnd_ok]
end Go.Sh

namespace Go.Sh
open Go.Fw Go.Gf Go.Sha Go.RowKit Go.Proofs.Tryd
def valJ(L:List (List F))(x:F):List F:=betwL L (bAt (L.getD 0 []) 2) (bAt (L.getD 0 []) 4+4) x
def secJ(R:Int×List (List F)):List F:=if R.1=0 then(valJ R.2 0).take (bAt (R.2.getD 0 []) 4) else []
def extE(idx:Int)(R:Int×List (List F)):Int:=if idx<1∨255<idx then 110 else R.1
def extT(idx:Int)(R:Int×List (List F)):ByteArray:=if idx<1∨255<idx then str0 else if R.1=0 then lineT (R.2.getD 0 []) idx.toNat (valJ R.2 (b8 idx.toNat)) else str0
theorem Vw.cut3{e:TypeId}{w:World}{s:Sl}{xs:List Value}(h:OwnS e w s xs){n:Nat}(hn:n≤s.len):Vw e w ⟨sla s.a 0 n 1,n - 0,n - 0⟩ (xs.take n):=by
 rw[sla_zero,Nat.sub_zero]
 have hl:=h.len
 have hc:=h.cap
 refine⟨by rw[List.length_take];show _=n;omega,?_⟩
 rcases h.vw.2 with ⟨h1,h2,h3⟩ | ⟨g,o,cs,h1,h2,h3,h4,h5,h6⟩
 ·exact .inl ⟨h1,by show n=0;omega,by show n=0;omega⟩
 ·refine .inr ⟨g,o,cs,h1,h2,Nat.le_refl _,by show n≤maxLen;omega,by show o+n≤_;omega,?_⟩
  rw[←h6,List.take_take]
  congr 1
  show n=min n s.len
  omega
theorem K_re{K:Nat}(hK:18446744073709551616≤K){w:World}{C S:List Int}{N:Nat}{s:Sl}{svs:List Sl}{L:List (List F)}(J:Joined C S L)(hL:L.length≤1000)(hS:ShSrc N w s svs L)(hN:N≤w.heap.size)(x:F):
  ∃ s' w',K_1c K s (bF x) w=some ((s',()),w')∧OwnS 5 w' s' (fb (valJ L x))∧Upd none_ w w'∧Fresh w.heap.size s'∧s'.len=bAt (L.getD 0 []) 4+4:=
 K_to hK hS hN J.need.1 J.enough rfl hL J.vals (by have:=J.need;omega) x
theorem K_1d7{K:Nat}(hK:18446744073709551616≤K){w:World}{C S:List Int}(T:Tabs w C S){a:Sl}{ts:List ByteArray}{Ts:List (List Nat)}(hT:TextsL ts Ts)(hl:ts.length≤1000)(hs:Src w a (tx ts))(hlt:∀ q,a.a=some q→ts≠[]→q.block<w.heap.size):
  ∃ s' w',K_ag K a w=some ((s',(joinR C S Ts).1,()),w')∧Upd none_ w w'∧Vw 5 w' s' (fb (secJ (joinR C S Ts)))∧Fresh w.heap.size s':=by
 obtain⟨s1,w1,a1,u1,a2⟩:=K_1dg hK T hT hl hs hlt
 unfold K_ag secJ
 rw[a1,bnd_ok]
 dsimp only
 by_cases h:(joinR C S Ts).1=0
 ·rw[if_neg (by rw[h];decide),if_pos h]
  obtain⟨svs,hS⟩:=a2 h
  obtain⟨J,hjl⟩:=K_mw h
  have hjl:=Nat.le_trans hjl (by rw[hT.1];exact hl)
  obtain⟨s2,w2,b1,b2,b3,b4,b5⟩:=K_re hK J hjl hS (Nat.le_refl _) 0
  have b1:K_1c K s1 0 w1=_:=b1
  have ud:Upd none_ w1 w2.drew:=b3.drew
  obtain⟨p,p1,_,_,_,_,pz,_⟩:=(hS.upd0 ud).ld (i:=0) J.ne
  have c0:(0:Int)≤0∧(0:Int)<((s1.len:Nat):Int):=by have:=hS.len;have:=J.ne;omega
  have hcap:=b2.cap
  have c1:(0:Int)≤((bAt ((joinR C S Ts).2.getD 0 []) 4:Nat):Int)∧((bAt ((joinR C S Ts).2.getD 0 []) 4:Nat):Int)≤((s2.cap:Nat):Int):=by omega
  have c2:(0:Int)≤((bAt ((joinR C S Ts).2.getD 0 []) 4:Nat):Int)∧((bAt ((joinR C S Ts).2.getD 0 []) 4:Nat):Int)≤(((bAt ((joinR C S Ts).2.getD 0 []) 4:Nat)):Int):=by omega
  have hv:=Vw.cut3 (h:=b2.drew) (n:=bAt ((joinR C S Ts).2.getD 0 []) 4) (by omega)
  rw[K_jo]at hv
  refine⟨_,w2.drew,?_,u1.and0 ud,hv,fun k hk=>?_⟩
  ·rw[b1,bnd_ok,p1,J_bs,if_pos c0,J_bs,if_pos c0,pz,J_bs,J_bs,if_pos c1,J_tn,if_pos c2,h]
  ·rw[sla_zero]at hk
   have:=b4 k hk
   have:=u1.size
   omega
 ·rw[if_pos (by rw[bne_iff_ne];exact h),if_neg h]
  exact⟨nilF,w1,rfl,u1,Vw.nil _ _,(fun k hk=>by cases hk)⟩
theorem K_1gc(K:Nat)(idx:Int)(w:World):K_8b K idx w=some ((decide (idx<1∨255<idx),()),w):=by
 unfold K_8b
 by_cases h:idx<1
 ·rw[if_pos (decide_eq_true h),decide_eq_true (Or.inl h)]
 ·rw[if_neg (by simpa using h)]
  congr 3
  rw[decide_eq_decide];omega
theorem K_1h3{K:Nat}(hK:18446744073709551616≤K){w:World}{C S:List Int}(T:Tabs w C S)(idx:Int){a:Sl}{ts:List ByteArray}{Ts:List (List Nat)}(hT:TextsL ts Ts)(hl:ts.length≤1000)(hs:Src w a (tx ts))(hlt:∀ q,a.a=some q→ts≠[]→q.block<w.heap.size):
  ∃ w',K_9c K idx a w=some ((extT idx (joinR C S Ts),extE idx (joinR C S Ts),()),w')∧Upd none_ w w':=by
 unfold K_9c extT extE
 rw[K_1gc,bnd_ok]
 dsimp only
 by_cases hi:idx<1∨255<idx
 ·rw[if_pos (decide_eq_true hi),if_pos hi,if_pos hi]
  exact⟨w,rfl,Upd.refl _ _⟩
 ·rw[if_neg (by simpa using hi),if_neg hi,if_neg hi]
  obtain⟨s1,w1,a1,u1,a2⟩:=K_1dg hK T hT hl hs hlt
  rw[a1,bnd_ok]
  dsimp only
  by_cases h:(joinR C S Ts).1=0
  ·rw[if_neg (by rw[h];decide),if_pos h]
   obtain⟨svs,hS⟩:=a2 h
   obtain⟨J,hjl⟩:=K_mw h
   have hjl:=Nat.le_trans hjl (by rw[hT.1];exact hl)
   obtain⟨n,rfl⟩:∃ n:Nat,idx=(n:Int):=⟨idx.toNat,by omega⟩
   generalize (joinR C S Ts).2=L at hS J hjl ⊢
   obtain⟨p,p1,p2,_⟩:=hS.ld (i:=0) J.ne
   have c0:(0:Int)≤0∧(0:Int)<((s1.len:Nat):Int):=by have:=hS.len;have:=J.ne;omega
   obtain⟨w2,w3,q1,q2,q3,q4,q5⟩:=cpS w1 (L.getD 0 []) (svs.getD 0 nilF)
   have hsz:(shareC (L.getD 0 []) (svs.getD 0 nilF)).toArray.size=5:=rfl
   obtain⟨w4,r1,r2,r3⟩:=q3.stC (i:=2) (by simp[shareC,shL]) (.int .i64 (n:Int))
   have r2:Bk 102 w4 w1.heap.size (shL (setN (L.getD 0 [])) (bAt (L.getD 0 []) 2) n (bAt (L.getD 0 []) 4) ++ [slF (svs.getD 0 nilF)]):=r2
   have r1:stC (((⟨w1.heap.size,0,none⟩:Addr).add 0).add 2) (.int .i64 (n:Int)) w3=some w4:=by simp only[add_lit,Nat.zero_add];exact r1
   have u4:Upd none_ w1 w4:=q4.trans' r3 fun k hk e=>by omega
   obtain⟨s5,w5,b1,b2,b3,b4,b5⟩:=K_re hK J hjl (hS.upd0 u4) u4.size (b8 n)
   obtain⟨w6,d1,d2,d3⟩:=(r2.upd0 b3).stC (i:=4) (by simp[shL]) (.slice s5.a s5.len s5.cap)
   rw[K_1d3]at d2
   have d1:stC ((⟨w1.heap.size,0,none⟩:Addr).add 4) (.slice s5.a s5.len s5.cap) w5=some w6:=by simp only[add_lit,Nat.zero_add];exact d1
   have z4:=r3.size
   have u6:Upd none_ w1 w6:=(u4.and0 b3).trans' d3 fun k hk e=>by omega
   have d4:=d2.ldA (i:=0) (n:=5) (by simp[shL])
   have d4:ldA 5 ⟨w1.heap.size,0,none⟩ w6=some (shL (setN (L.getD 0 [])) (bAt (L.getD 0 []) 2) n (bAt (L.getD 0 []) 4) ++ [slF s5]).toArray:=d4
   have hs6:BSrc w6 s5 (valJ L (b8 n)):=(b2.upd d3 fun k hk e=>by have:=b4 k hk;omega).src (K_k _)
   obtain⟨w7,f1,f2⟩:=K_1l1 hK (s:=setN (L.getD 0 [])) (n:=bAt (L.getD 0 []) 2) (i:=n) (z:=bAt (L.getD 0 []) 4) (K_16g _) hs6 (by unfold valJ;rw[K_6g];have:=J.need;omega)
   refine⟨w7,?_,(u1.and0 u6).and0 f2⟩
   rw[p1,J_bs,if_pos c0,p2,J_bs,q1,bnd_ok,if_pos hsz,q2,J_bs,r1,J_bs,K_7o,b1,bnd_ok,d1,J_bs,d4,J_bs,f1,bnd_ok,h]
   rfl
  ·rw[if_pos (by rw[bne_iff_ne];exact h),if_neg h]
   exact⟨w1,rfl,u1⟩
end Go.Sh

namespace Go.Sh
open Go.Fw Go.Gf Go.Sha Go.RowKit Go.Proofs.Tryd
abbrev Pt:=List F×Sl×Nat
def ptC(p:Pt):List Value:=partC (setN p.1) (bAt p.1 2) (bAt p.1 3) (bAt p.1 4) p.2.1 p.2.2
def pt0:Pt:=([],nilF,0)
theorem K_164(p:Pt):∀ v∈ptC p,v.oneCell'=true:=fun v hv=>K_13i _ _ _ _ _ _ v hv
structure PtAt(B:Nat) (w:World) (s:Sl) (ps:List Pt):Prop where
 str:StrS 105 6 w s (ps.map ptC)
 src:∀ p∈ps,BSrc w p.2.1 (valsP p.1)
 low:∀ k,s.blk=some k→B≤k
 off:∀ p∈ps,∀ q,p.2.1.a=some q→s.blk≠some q.block∧B≤q.block∧q.block<w.heap.size
theorem PtAt.nil(B:Nat)(w:World):PtAt B w ⟨none,0,0⟩ []:=⟨StrS.nil _ _ _,fun p h=>(by cases h),fun k h=>(by cases h),fun p h=>(by cases h)⟩
theorem PtAt.size{B:Nat}{w:World}{s:Sl}{ps:List Pt}(h:PtAt B w s ps):s.len=ps.length:=by rw[h.str.2.1,List.length_map]
theorem PtAt.updS{B:Nat}{w w':World}{s:Sl}{ps:List Pt}{X:Nat→Prop}(h:PtAt B w s ps)(u:Upd X w w')(h1:∀ k,s.blk=some k→¬X k)(h2:∀ p∈ps,∀ q,p.2.1.a=some q→¬X q.block):PtAt B w' s ps:=
 ⟨h.str.upd u fun k hk=>h1 k hk,fun p hp=>Fw.Src.upd (h.src p hp) u fun q hq=>h2 p hp q hq,h.low,fun p hp q hq=>⟨(h.off p hp q hq).1,(h.off p hp q hq).2.1,Nat.lt_of_lt_of_le (h.off p hp q hq).2.2 u.size⟩⟩
theorem PtAt.upd0{B:Nat}{w w':World}{s:Sl}{ps:List Pt}(h:PtAt B w s ps)(u:Upd none_ w w'):PtAt B w' s ps:=h.updS u (fun _ _=>id) fun _ _ _ _=>id
theorem PtAt.push{B:Nat}{w:World}{s:Sl}{ps:List Pt}(h:PtAt B w s ps)(hB:B≤w.heap.size)(hl:ps.length≤1000){p:Pt}(hs:BSrc w p.2.1 (valsP p.1))(hf:∀ q,p.2.1.a=some q→s.blk≠some q.block∧B≤q.block∧q.block<w.heap.size):
  ∃ w1 s' w',bldS prog 129 1 #[(0,.agg (ptC p).toArray)] w=some (⟨some ⟨w.heap.size,0,none⟩,1,1⟩,w1)∧apd prog 129 129 (.slice s.a s.len s.cap) (.slice (some ⟨w.heap.size,0,none⟩) 1 1) w1=some (s',w')∧PtAt B w' s' (ps ++ [p])∧Upd (fun k=>s.blk=some k) w w'∧∀ k,s'.blk=some k→s.blk=some k∨w.heap.size≤k:=by
 have hsz:=h.size
 obtain⟨w1,s',w',a1,a2,a3,a4,a5,a6⟩:=pushN manyPt h.str.1 (cs:=(ptC p).toArray) (by omega) (by omega) rfl (fun v hv=>K_164 p v hv) (by omega)
 have q:=a5.size
 refine⟨w1,s',w',a1,a2,⟨⟨?_,?_,?_⟩,fun x hx=>?_,fun k hk=>(a6 k hk).elim (h.low k) fun e=>by omega,fun x hx q2 hq=>?_⟩,a5,a6⟩
 ·rw[List.map_append,List.flatten_append]
  have e:(([p].map ptC).flatten:List Value)=(ptC p).toArray.toList:=by simp
  rw[e];exact a4
 ·rw[a3,hsz,List.length_map,List.length_append];rfl
 ·intro x hx
  obtain⟨y,_,rfl⟩:=List.mem_map.1 hx
  rfl
 ·rcases List.mem_append.1 hx with hx | hx
  ·exact Fw.Src.upd (h.src x hx) a5 fun q hq=>(h.off x hx q hq).1
  ·rw[List.mem_singleton.1 hx]
   exact Fw.Src.upd hs a5 fun q hq=>(hf q hq).1
 ·have hh:s.blk≠some q2.block∧B≤q2.block∧q2.block<w.heap.size:=by
   rcases List.mem_append.1 hx with hx | hx
   ·exact h.off x hx q2 hq
   ·rw[List.mem_singleton.1 hx]at hq
    exact hf q2 hq
  exact⟨fun e=>(a6 _ e).elim hh.1 fun e2=>by omega,hh.2.1,by omega⟩
theorem K_e3{α β:Type}(f:α→β)(l:List α)(d:α)(e:β){i:Nat}(h:i<l.length):(l.map f).getD i e=f (l.getD i d):=by
 rw[J_gd,List.getElem?_map,J_ge h,J_gd,J_ge h];rfl
theorem K_no{α:Type}{l:List α}(d:α){i:Nat}(h:i<l.length):l.getD i d∈l:=by
 rw[J_gd,J_ge h];exact List.getElem_mem h
theorem PtAt.ld{B:Nat}{w:World}{s:Sl}{ps:List Pt}(h:PtAt B w s ps){i:Nat}(hi:i<ps.length):
  ∃ p,s.a=some p∧ldA 6 (p.add (i*6)) w=some (ptC (ps.getD i pt0)).toArray∧ldA 4 ((p.add (i*6)).add 0) w=some (shL (setN (ps.getD i pt0).1) (bAt (ps.getD i pt0).1 2) (bAt (ps.getD i pt0).1 3) (bAt (ps.getD i pt0).1 4)).toArray∧ldI .i64 (((p.add (i*6)).add 0).add 2) w=some ((bAt (ps.getD i pt0).1 3:Nat):Int)∧ldS ((p.add (i*6)).add 4) w=some (ps.getD i pt0).2.1:=by
 obtain⟨g,cs,a1,a2,a3,a4⟩:=h.str.at (i:=i) (by rw[List.length_map];exact hi)
 rw[K_e3 ptC ps pt0 [] hi]at a3 a4
 refine⟨⟨g,0,none⟩,a1,by rw[add_lit,Nat.zero_add];exact a3,?_,?_,?_⟩
 ·have h5:=a4 5 (by omega)
  have hlen:i*6+5<cs.length:=(List.getElem?_eq_some_iff.1 (h5.trans rfl)).1
  rw[add_lit,add_lit,Nat.zero_add,Nat.add_zero,a2.ldA (by omega)]
  congr 2
  apply List.ext_getElem?
  intro j
  rw[List.getElem?_take]
  split
  ·rename_i hj
   rw[List.getElem?_drop,a4 j (by omega)]
   rcases(show j=0∨j=1∨j=2∨j=3 by omega) with rfl | rfl | rfl | rfl <;> rfl
  ·rename_i hj
   rw[List.getElem?_eq_none (by show 4≤j;omega)]
 ·simp only[add_lit,Nat.add_zero,Nat.zero_add];exact a2.ldI (a4 2 (by omega))
 ·simp only[add_lit,Nat.add_zero,Nat.zero_add];exact a2.ldS (a4 4 (by omega))
theorem cpP(w:World)(p:Pt):∃ w1 w2,newB z105 105 w=some (⟨w.heap.size,0,none⟩,w1)∧stA ⟨w.heap.size,0,none⟩ (ptC p).toArray w1=some w2∧Bk 105 w2 w.heap.size (ptC p)∧Upd none_ w w2∧w.heap.size<w2.heap.size:=by
 obtain⟨w1,a1,a2,a3,a4⟩:=K_9 z105 105 w
 have a2:Bk 105 w1 w.heap.size part0:=by rw[K_16p]at a2;exact a2
 obtain⟨w2,b1,b2,b3⟩:=a2.stA (o:=0) (vs:=(ptC p).toArray) (by simp[part0,ptC,partC,shL]) (fun v hv=>K_164 p v hv)
 have b2:Bk 105 w2 w.heap.size (ptC p):=b2
 have q:=b3.size
 exact⟨w1,w2,a1,b1,b2,a3.trans' b3 fun k hk e=>by omega,by omega⟩
theorem stP{w:World}{g:Nat}{p:Pt}(b:Bk 105 w g (ptC p))(q:Pt):∃ w',stA ⟨g,0,none⟩ (ptC q).toArray w=some w'∧Bk 105 w' g (ptC q)∧Upd (· =g) w w':=by
 obtain⟨w2,b1,b2,b3⟩:=b.stA (o:=0) (vs:=(ptC q).toArray) (by simp[ptC,partC,shL]) (fun v hv=>K_164 q v hv)
 exact⟨w2,b1,b2,b3⟩
theorem ldP6{w:World}{g:Nat}{p:Pt}(b:Bk 105 w g (ptC p)):ldA 6 (⟨g,0,none⟩:Addr) w=some (ptC p).toArray:=by
 have:=b.ldA (i:=0) (n:=6) (by simp[ptC,partC,shL])
 exact this
theorem K_1im{K:Nat}(hK:18446744073709551616≤K){a:Sl}{ts:List ByteArray}{Ts:List (List Nat)}(hT:TextsL ts Ts)(hl:ts.length≤1000){B g:Nat}(hab:∀ q,a.a=some q→ts≠[]→q.block<B∧q.block≠g)(hg:g<B):
  ∀ (d i m:Nat) (w:World) (all:Sl) (ps:List Pt),i+d=ts.length→d<m→B≤w.heap.size→Src w a (tx ts)→ps.length=i→PtAt B w all ps→Bk 105 w g (ptC pt0)→
   ∃ w',Upd (fun k=>all.blk=some k∨k=g) w w'∧Bk 105 w' g (ptC pt0)∧if (mendAll (Ts.drop i)).1=0 then ∃ all' ps',K_r K m a ⟨g,0,none⟩ all (i:Int) w=some (.norm (all',()),w')∧PtAt B w' all' (ps ++ ps')∧ps'.map (·.1)=(mendAll (Ts.drop i)).2
    else K_r K m a ⟨g,0,none⟩ all (i:Int) w=some (.ret (⟨none,0,0⟩,⟨g,0,none⟩,(mendAll (Ts.drop i)).1,()),w'):=by
 intro d
 induction d with
 | zero=>
  intro i m w all ps hi hm hB hs hL hA hb
  obtain⟨m,rfl⟩:∃ q,m=q+1:=⟨m - 1,by omega⟩
  have hal:a.len=ts.length:=by rw[hs.len,K_16]
  rw[List.drop_eq_nil_of_le (by have:=hT.1;omega)]
  refine⟨w,Upd.refl _ _,hb,?_⟩
  rw[if_pos (show (mendAll []).1=0 from rfl)]
  refine⟨all,[],?_,by rw[List.append_nil];exact hA,rfl⟩
  show K_7v K (K_r K m) a ⟨g,0,none⟩ all (i:Int) w=_
  unfold K_7v
  rw[if_neg (by simp only[decide_eq_true_eq];omega)]
 | succ d ih=>
  intro i m w all ps hi hm hB hs hL hA hb
  obtain⟨m,rfl⟩:∃ q,m=q+1:=⟨m - 1,by omega⟩
  have hil:i<ts.length:=by omega
  have hTl:=hT.1
  obtain⟨hT1,hT2⟩:=hT.2 i hil
  have e3:IntKind.i64.wrap ((i:Int)+1)=((i+1:Nat):Int):=by rw[w64 (by omega) (by omega)];rfl
  obtain⟨p,p1,p2⟩:=tx_at hs hil
  have hti:ts[i]=ts.getD i str0:=by rw[J_gd,J_ge hil];rfl
  have hal:a.len=ts.length:=by rw[hs.len,K_16]
  have c1:(0:Int)≤(i:Int)∧(i:Int)<((a.len:Nat):Int):=by omega
  have htne:ts≠[]:=fun e=>by rw[e]at hil;exact Nat.not_lt_zero i hil
  rw[hti]at p2
  obtain⟨cs,w1,a1,a2,a3⟩:=K_1j6 hK w hT1 hT2
  have hd:Ts.drop i=Ts.getD i [] :: Ts.drop (i+1):=K_gg [] (by omega)
  have step:K_r K (m+1) a ⟨g,0,none⟩ all (i:Int) w=(bnd (some ((cs,(mendR (Ts.getD i [])).1,()),w1):Option ((Array Value×Int×Unit)×World)) fun r_5 w_6=>
    bnd (newB z105 105 w_6) fun p_7 w_8=>
    if (r_5.1).size=6 then((stA p_7 r_5.1 w_8).bind fun w_9=>
    if (r_5.2.1 != 0)=true then((prog.built 105 []).bind fun cs_10=>
    if (cs_10).size=6 then((stA ⟨g,0,none⟩ cs_10 w_9).bind fun w_11=>
    some (.ret (⟨none,0,0⟩,⟨g,0,none⟩,r_5.2.1,()),w_11)) else none) else((ldA 6 p_7 w_9).bind fun v_12=>
    bnd (bldS prog 129 1 #[(0,(.agg v_12))] w_9) fun s_13 w_14=>
    bnd (apd prog 129 129 (.slice all.a all.len all.cap) (.slice s_13.a s_13.len s_13.cap) w_14) fun s_15 w_16=>
    K_r K m a ⟨g,0,none⟩ s_15 (IntKind.i64.wrap ((i:Int)+1)) w_16)) else none):=by
   show K_7v K (K_r K m) a ⟨g,0,none⟩ all (i:Int) w=_
   unfold K_7v
   rw[if_pos (decide_eq_true (show (i:Int)<((a.len:Nat):Int) by omega)),p1,J_bs,if_pos c1,J_tn,Nat.mul_one,p2,J_bs,a1]
  cases hr:(mendR (Ts.getD i [])).2 with
  | none=>
   rw[hr]at a3
   have h2:cs=(ptC pt0).toArray:=a3
   have hne:=K_13y hr
   have hM:mendAll (Ts.drop i)=((mendR (Ts.getD i [])).1,[]):=by rw[hd];exact K_ao hr
   obtain⟨w2,w3,b1,b2,b3,b4,b5⟩:=cpP w1 pt0
   have u3:=a2.and0 b4
   obtain⟨w4,c2,c3,c4⟩:=stP (hb.upd0 u3) pt0
   have hz:(ptC pt0).toArray.size=6:=rfl
   have hbt:prog.built 105 []=some (ptC pt0).toArray:=built105z
   refine⟨w4,(u3.mono (T:=fun k=>all.blk=some k∨k=g) fun _ _ e=>e.elim).trans' c4 fun _ _ e=>.inr e,c3,?_⟩
   rw[hM,if_neg hne,step,bnd_ok,b1,bnd_ok,h2,if_pos hz,b2,J_bs,if_pos (by rw[bne_iff_ne];exact hne),hbt,J_bs,if_pos hz,c2,J_bs]
  | some r=>
   rw[hr]at a3
   obtain⟨sv,h2,h3,h4⟩:=a3
   obtain⟨he,hf,hl1,hl2⟩:=K_up (c:=r.1) (n:=r.2) hr
   have hvl:=K_ns hf
   have h2:cs=(ptC (r.1,sv,r.2)).toArray:=h2
   have hM:mendAll (Ts.drop i)=((mendAll (Ts.drop (i+1))).1,r.1 :: (mendAll (Ts.drop (i+1))).2):=by rw[hd];exact K_as hr
   obtain⟨w2,w3,b1,b2,b3,b4,b5⟩:=cpP w1 (r.1,sv,r.2)
   have hz:(ptC (r.1,sv,r.2)).toArray.size=6:=rfl
   have l1:=ldP6 b3
   have u3:=a2.and0 b4
   have z3:=u3.size
   have hs3:BSrc w3 sv (valsP r.1):=(h3.src (K_k _)).upd0 b4
   have hvne:valsP r.1≠[]:=fun e=>by rw[e]at hvl;simp at hvl
   obtain⟨w4,s',w5,d1,d2,d3,d4,d5⟩:=(hA.upd0 u3).push (by omega) (by omega) (p:=(r.1,sv,r.2)) hs3 (fun q hq=>by
    have hq:sv.a=some q:=hq
    have h5:=h4 q.block (by simp[Sl.blk,hq])
    refine⟨fun e=>by have:=hA.str.1.lt e;omega,by omega,K_h5 hs3 q hq hvne⟩)
   have u5:Upd (fun k=>all.blk=some k∨k=g) w w5:=(u3.mono (T:=fun k=>all.blk=some k∨k=g) fun _ _ e=>e.elim).trans' d4 fun _ _ e=>.inl e
   have z5:=u5.size
   obtain⟨w',k1,kb,k2⟩:=ih (i+1) m w5 s' (ps ++ [(r.1,sv,r.2)]) (by omega) (by omega) (by omega) (K_13m hs u5 fun q hq hne e=>by
     have:=hab q hq htne
     rcases e with e | e
     ·have:=hA.low _ e;omega
     ·exact this.2 e) (by rw[List.length_append,hL];rfl) d3 ((hb.upd0 u3).upd d4 fun e=>by have:=hA.low _ e;omega)
   refine⟨w',u5.trans' k1 fun k hk e=>e.elim (fun e=>(d5 k e).elim .inl fun e2=>absurd hk (by omega)) .inr,kb,?_⟩
   have run:K_r K (m+1) a ⟨g,0,none⟩ all (i:Int) w=K_r K m a ⟨g,0,none⟩ s' ((i+1:Nat):Int) w5:=by
    rw[step,bnd_ok,b1,bnd_ok,h2,if_pos hz,b2,J_bs,if_neg (by rw[he];decide),l1,J_bs,d1,bnd_ok]
    dsimp only
    rw[d2,bnd_ok,e3]
   rw[hM,run]
   dsimp only
   by_cases c:(mendAll (Ts.drop (i+1))).1=0
   ·rw[if_pos c]at k2 ⊢
    obtain⟨all',ps',k3,k4,k5⟩:=k2
    exact⟨all',(r.1,sv,r.2) :: ps',k3,by rw[List.append_assoc]at k4;exact k4,by rw[List.map_cons,k5]⟩
   ·rw[if_neg c]at k2 ⊢
    exact k2
end Go.Sh

namespace Go.Sh
open Go.Fw Go.Gf Go.Sha Go.RowKit Go.Proofs.Tryd
theorem K_1d9(b:ByteArray):∀ (d i:Nat) (r:List UInt8),i+d=b.size→ByteArray.toList.loop b i r=r.reverse ++ b.data.toList.drop i
 | 0,i,r,h=>by
  have hs:b.data.toList.length=b.size:=Array.length_toList
  unfold ByteArray.toList.loop
  rw[if_neg (by omega),List.drop_eq_nil_of_le (by omega),List.append_nil]
 | d+1,i,r,h=>by
  have hs:b.data.toList.length=b.size:=Array.length_toList
  unfold ByteArray.toList.loop
  have hi:i<b.data.toList.length:=by omega
  rw[if_pos (by omega),K_1d9 b d (i+1) _ (by omega),List.drop_eq_getElem_cons hi]
  have:b.get! i=b.data.toList[i]:=by
   have h2:i<b.data.size:=by rw[Array.length_toList]at hi;exact hi
   show b.data[i]! =_
   rw[getElem!_pos b.data i h2,Array.getElem_toList]
  rw[this,List.reverse_cons,List.append_assoc];rfl
theorem K_11c(b:ByteArray):b.toList=b.data.toList:=by
 unfold ByteArray.toList
 rw[K_1d9 b b.size 0 [] (by omega)];rfl
theorem K_1kp(a b:ByteArray):(a.toList == b.toList)=decide (a=b):=by
 rw[K_11c,K_11c]
 by_cases h:a=b
 ·rw[h,decide_eq_true rfl];simp
 ·rw[decide_eq_false h]
  apply Bool.eq_false_iff.2
  intro e
  apply h
  have:a.data.toList=b.data.toList:=by simpa using e
  cases a;cases b
  simpa using this
theorem K_1cl{l m:List F}(h:bytesOf (l.map bF)=bytesOf (m.map bF)):l=m:=by
 have h1:(bytesOf (l.map bF)).data.toList=(bytesOf (m.map bF)).data.toList:=by rw[h]
 have e:∀ l:List F,(bytesOf (l.map bF)).data.toList.map (fun u=>b8 u.toNat)=l:=fun l=>by
  unfold bytesOf
  rw[List.map_map,List.map_map]
  conv=>rhs;rw[←List.map_id l]
  refine List.map_congr_left fun a _=>F.ext' ?_
  show (UInt8.ofNat (Int.toNat (a.n:Int))).toNat % 256=a.n
  rw[J_tn,UInt8.toNat_ofNat',Nat.mod_mod,Nat.mod_eq_of_lt a.lt]
 rw[←e l,←e m,h1]
theorem K_1gp(l m:List F):((bytesOf (l.map bF)).toList == (bytesOf (m.map bF)).toList)=decide (l=m):=by
 rw[K_1kp,decide_eq_decide]
 exact⟨K_1cl,fun h=>by rw[h]⟩
theorem K_ha:prog.built 105 []=some (ptC pt0).toArray:=built105z
theorem K_cv(p:Pt):(ptC p).toArray.size=6:=rfl
theorem K_1iq{K:Nat}{w:World}{g1 g2:Nat}{p:Pt}{c:List F}{e:TypeId}(b1:Bk 105 w g1 (ptC p))(b2:Bk e w g2 (shL (setN c) (bAt c 2) (bAt c 3) (bAt c 4))):K_a9 K ⟨g1,0,none⟩ ⟨g2,0,none⟩ w=some ((!alikeB p.1 c,()),w):=by
 have l0:ldI .u16 (⟨g1,0,none⟩:Addr) w=some ((setN p.1:Nat):Int):=b1.ldI rfl
 have l1:ldI .i64 (⟨g1,1,none⟩:Addr) w=some ((bAt p.1 2:Nat):Int):=b1.ldI rfl
 have l3:ldI .i64 (⟨g1,3,none⟩:Addr) w=some ((bAt p.1 4:Nat):Int):=b1.ldI rfl
 have m0:ldI .u16 (⟨g2,0,none⟩:Addr) w=some ((setN c:Nat):Int):=b2.ldI rfl
 have m1:ldI .i64 (⟨g2,1,none⟩:Addr) w=some ((bAt c 2:Nat):Int):=b2.ldI rfl
 have m3:ldI .i64 (⟨g2,3,none⟩:Addr) w=some ((bAt c 4:Nat):Int):=b2.ldI rfl
 unfold K_a9
 simp only[add_lit,Nat.zero_add,Nat.add_zero,l0,l1,l3,m0,m1,m3,J_bs]
 unfold alikeB
 by_cases h1:setN c=setN p.1
 ·rw[if_neg (by rw[bne_iff_ne];omega)]
  by_cases h2:bAt c 2=bAt p.1 2
  ·rw[if_neg (by rw[bne_iff_ne];omega)]
   by_cases h3:bAt c 4=bAt p.1 4
   ·rw[decide_eq_true ⟨h1,h2,h3⟩,h3];simp
   ·rw[decide_eq_false (fun h=>h3 h.2.2)]
    have:(((bAt c 4:Nat):Int) != ((bAt p.1 4:Nat):Int))=true:=by rw[bne_iff_ne];omega
    rw[this];rfl
  ·rw[if_pos (by rw[bne_iff_ne];omega),decide_eq_false (fun h=>h2 h.2.1)];rfl
 ·rw[if_pos (by rw[bne_iff_ne];omega),decide_eq_false (fun h=>h1 h.1)];rfl
theorem K_1hm{K:Nat}{B g g1:Nat}{s:Sl}{ps:List Pt}{p0:Pt}(hL:ps.length≤1000)(hgg:g<B)(hg1:g≠g1):
  ∀ (d i m:Nat) (w:World),i+d=ps.length→d<m→B≤w.heap.size→PtAt B w s ps→Bk 105 w g (ptC pt0)→Bk 105 w g1 (ptC p0)→
   ∃ w',K_20 K m ⟨g,0,none⟩ s ⟨g1,0,none⟩ (i:Int) w=some (if ((ps.map (·.1)).drop i).all (alikeB p0.1)=true then .norm () else .ret (⟨none,0,0⟩,⟨g,0,none⟩,115,()),w')∧Upd (· =g) w w'∧Bk 105 w' g (ptC pt0):=by
 intro d
 induction d with
 | zero=>
  intro i m w hi hm hB hS hb hb1
  obtain⟨m,rfl⟩:∃ q,m=q+1:=⟨m - 1,by omega⟩
  refine⟨w,?_,Upd.refl _ _,hb⟩
  rw[List.drop_eq_nil_of_le (by rw[List.length_map];omega),if_pos List.all_nil]
  show K_7i K (K_20 K m) ⟨g,0,none⟩ s ⟨g1,0,none⟩ (i:Int) w=_
  unfold K_7i
  have:=hS.size
  rw[if_neg (by simp only[decide_eq_true_eq];omega)]
 | succ d ih=>
  intro i m w hi hm hB hS hb hb1
  obtain⟨m,rfl⟩:∃ q,m=q+1:=⟨m - 1,by omega⟩
  have hil:i<ps.length:=by omega
  have hsz:=hS.size
  have e3:IntKind.i64.wrap ((i:Int)+1)=((i+1:Nat):Int):=by rw[w64 (by omega) (by omega)];rfl
  obtain⟨p,p1,_,p2,_,_⟩:=hS.ld hil
  have c1:(0:Int)≤(i:Int)∧(i:Int)<((s.len:Nat):Int):=by omega
  obtain⟨w1,a1,a2,a3,a4⟩:=K_9 z84 84 w
  have a2:Bk 84 w1 w.heap.size (shL 0 0 0 0):=by rw[K_yt]at a2;exact a2
  generalize hc:(ps.getD i pt0).1=c at p2
  obtain⟨w2,b1,b2,b3⟩:=a2.stA (o:=0) (vs:=(shL (setN c) (bAt c 2) (bAt c 3) (bAt c 4)).toArray) (by simp[shL]) (fun v hv=>K_es _ _ _ _ v hv)
  have b2:Bk 84 w2 w.heap.size (shL (setN c) (bAt c 2) (bAt c 3) (bAt c 4)):=b2
  have u2:Upd none_ w w2:=a3.trans' b3 fun k hk e=>by omega
  have hz:(shL (setN c) (bAt c 2) (bAt c 3) (bAt c 4)).toArray.size=4:=rfl
  have hd:(ps.map (·.1)).drop i=c :: (ps.map (·.1)).drop (i+1):=by
   rw[K_gg [] (by rw[List.length_map];exact hil),K_e3 (·.1) ps pt0 [] hil,hc]
  have step:K_20 K (m+1) ⟨g,0,none⟩ s ⟨g1,0,none⟩ (i:Int) w=if (!alikeB p0.1 c)=true then((prog.built 105 []).bind fun cs_41=>
    if (cs_41).size=6 then((stA ⟨g,0,none⟩ cs_41 w2).bind fun w_42=>
    some (.ret (⟨none,0,0⟩,⟨g,0,none⟩,115,()),w_42)) else none) else(K_20 K m ⟨g,0,none⟩ s ⟨g1,0,none⟩ ((i+1:Nat):Int) w2):=by
   show K_7i K (K_20 K m) ⟨g,0,none⟩ s ⟨g1,0,none⟩ (i:Int) w=_
   unfold K_7i
   rw[if_pos (decide_eq_true (show (i:Int)<((s.len:Nat):Int) by omega)),p1,J_bs,if_pos c1,J_tn,p2,J_bs,a1,bnd_ok,if_pos hz,b1,J_bs,K_1iq (hb1.upd0 u2) b2,bnd_ok,e3]
  rw[step,hd,List.all_cons]
  have z2:=u2.size
  by_cases h:alikeB p0.1 c=true
  ·obtain⟨w',k1,k2,k3⟩:=ih (i+1) m w2 (by omega) (by omega) (by omega) (hS.upd0 u2) (hb.upd0 u2) (hb1.upd0 u2)
   refine⟨w',?_,(u2.mono (T:=(· =g)) fun _ _ e=>e.elim).trans' k2 fun _ _ e=>e,k3⟩
   rw[h,if_neg (by decide),k1,Bool.true_and]
  ·have h:alikeB p0.1 c=false:=by simpa using h
   obtain⟨w3,d1,d2,d3⟩:=stP (hb.upd0 u2) pt0
   refine⟨w3,?_,(u2.mono (T:=(· =g)) fun _ _ e=>e.elim).trans' d3 fun _ _ e=>e,d2⟩
   rw[h,if_pos (by decide),K_ha,J_bs,if_pos (K_cv _),d1,J_bs,Bool.false_and,if_neg (by decide)]
def dupG(c:List F):List (List F)→Bool→Option Bool
 | [],f=>some f
 | a :: r,f=>if bAt a 3=bAt c 3 then(if valsP a=valsP c then dupG c r false else none) else dupG c r f
theorem K_1jb{K:Nat}{B g:Nat}{s own:Sl}{fa:Addr}{ps:List Pt}(hL:ps.length≤1000){i:Nat}(hi:i<ps.length)(hgg:g<B)(hv:∀ p∈ps,(valsP p.1).length≤1000):
  ∀ (d k m:Nat) (w:World) (f:Bool),k+d=i→d<m→PtAt B w s ps→Bk 105 w g (ptC pt0)→
   ∃ w',K_1z K m ⟨g,0,none⟩ s fa own (i:Int) f (k:Int) w=some (match dupG (ps.getD i pt0).1 (((ps.map (·.1)).take i).drop k) f with | some f'=>.norm (f',()) | none=>.ret (⟨none,0,0⟩,⟨g,0,none⟩,116,()),w')∧Upd (· =g) w w'∧Bk 105 w' g (ptC pt0):=by
 intro d
 induction d with
 | zero=>
  intro k m w f hk hm hS hb
  obtain⟨m,rfl⟩:∃ q,m=q+1:=⟨m - 1,by omega⟩
  refine⟨w,?_,Upd.refl _ _,hb⟩
  rw[List.drop_eq_nil_of_le (by rw[List.length_take];omega)]
  show K_7k K (K_1z K m) ⟨g,0,none⟩ s fa own (i:Int) f (k:Int) w=_
  unfold K_7k
  rw[if_neg (by simp only[decide_eq_true_eq];omega)];rfl
 | succ d ih=>
  intro k m w f hk hm hS hb
  obtain⟨m,rfl⟩:∃ q,m=q+1:=⟨m - 1,by omega⟩
  have hkl:k<ps.length:=by omega
  have hsz:=hS.size
  have e3:IntKind.i64.wrap ((k:Int)+1)=((k+1:Nat):Int):=by rw[w64 (by omega) (by omega)];rfl
  have ud:Upd none_ w w.drew:=(Upd.refl _ _).drew
  have ud2:Upd none_ w w.drew.drew:=ud.drew
  obtain⟨p,p1,_,_,p2,_⟩:=(hS.upd0 ud).ld hkl
  obtain⟨p',p1',_,_,q2,_⟩:=(hS.upd0 ud).ld hi
  obtain rfl:p'=p:=Option.some.inj (p1'.symm.trans p1)
  obtain⟨p'',p1'',_,_,_,p3⟩:=(hS.upd0 ud2).ld hkl
  obtain rfl:p''=p':=Option.some.inj (p1''.symm.trans p1)
  obtain⟨p''',p1''',_,_,_,q3⟩:=(hS.upd0 ud2).ld hi
  obtain rfl:p'''=p'':=Option.some.inj (p1'''.symm.trans p1)
  have c1:(0:Int)≤(k:Int)∧(k:Int)<((s.len:Nat):Int):=by omega
  have c2:(0:Int)≤(i:Int)∧(i:Int)<((s.len:Nat):Int):=by omega
  have hd:((ps.map (·.1)).take i).drop k=(ps.getD k pt0).1 :: ((ps.map (·.1)).take i).drop (k+1):=by
   rw[K_gg [] (by rw[List.length_take,List.length_map];omega),K_e0 _ _ _ _ (by omega),K_e3 (·.1) ps pt0 [] hkl]
  have step:K_1z K (m+1) ⟨g,0,none⟩ s fa own (i:Int) f (k:Int) w=K_7k K (K_1z K m) ⟨g,0,none⟩ s fa own (i:Int) f (k:Int) w:=rfl
  have hD:dupG (ps.getD i pt0).1 (((ps.map (·.1)).take i).drop k) f=if bAt (ps.getD k pt0).1 3=bAt (ps.getD i pt0).1 3 then(if valsP (ps.getD k pt0).1=valsP (ps.getD i pt0).1 then dupG (ps.getD i pt0).1 (((ps.map (·.1)).take i).drop (k+1)) false else none) else dupG (ps.getD i pt0).1 (((ps.map (·.1)).take i).drop (k+1)) f:=by rw[hd];rfl
  rw[hD,step]
  unfold K_7k
  rw[if_pos (decide_eq_true (show (k:Int)<(i:Int) by omega)),p1,J_bs,if_pos c1,J_bs,if_pos c2,J_tn,J_tn,p2,J_bs,q2,J_bs]
  by_cases h:bAt (ps.getD k pt0).1 3=bAt (ps.getD i pt0).1 3
  ·rw[if_pos (by rw[beq_iff_eq];omega),if_pos h,J_bs,if_pos c1,J_bs,if_pos c2,p3,J_bs]
   have r1:=K_jn (s:=(ps.getD k pt0).2.1) (((hS.upd0 ud2).src _ (K_no pt0 hkl)).rds)
   have r2:=K_jn (s:=(ps.getD i pt0).2.1) (((hS.upd0 ud2).src _ (K_no pt0 hi)).rds)
   rw[r1,J_bs,q3,J_bs,r2,J_bs,K_1gp]
   by_cases hv:valsP (ps.getD k pt0).1=valsP (ps.getD i pt0).1
   ·rw[decide_eq_true hv,if_neg (by decide),if_pos hv,e3]
    obtain⟨w',k1,k2,k3⟩:=ih (k+1) m w.drew.drew false (by omega) (by omega) (hS.upd0 ud2) (hb.upd0 ud2)
    exact⟨w',k1,(ud2.mono (T:=(· =g)) fun _ _ e=>e.elim).trans' k2 fun _ _ e=>e,k3⟩
   ·rw[decide_eq_false hv,if_pos (by decide),if_neg hv]
    obtain⟨w3,d1,d2,d3⟩:=stP (hb.upd0 ud2) pt0
    refine⟨w3,?_,(ud2.mono (T:=(· =g)) fun _ _ e=>e.elim).trans' d3 fun _ _ e=>e,d2⟩
    rw[K_ha,J_bs,if_pos (K_cv _),d1,J_bs]
  ·rw[if_neg (by rw[beq_iff_eq];omega),if_neg h,e3]
   obtain⟨w',k1,k2,k3⟩:=ih (k+1) m w.drew f (by omega) (by omega) (hS.upd0 ud) (hb.upd0 ud)
   exact⟨w',k1,(ud.mono (T:=(· =g)) fun _ _ e=>e.elim).trans' k2 fun _ _ e=>e,k3⟩
end Go.Sh

namespace Go.Sh
open Go.Fw Go.Gf Go.Sha Go.RowKit Go.Proofs.Tryd
theorem K_16x{c:List F}:∀ (l:List (List F)) (f:Bool),(∀ a∈l,bAt a 3=bAt c 3→valsP a=valsP c)→dupG c l f=some (if ∃ a∈l,bAt a 3=bAt c 3 then false else f)
 | [],f,h=>by
  rw[if_neg (fun⟨a,h,_⟩=>by cases h)];rfl
 | a :: r,f,h=>by
  have ih:=fun f=>K_16x r f fun x hx=>h x (List.mem_cons_of_mem _ hx)
  show (if bAt a 3=bAt c 3 then(if valsP a=valsP c then dupG c r false else none) else dupG c r f)=_
  by_cases e:bAt a 3=bAt c 3
  ·rw[if_pos e,if_pos (h a (List.mem_cons_self ..) e),ih,if_pos (show ∃ x∈a :: r,bAt x 3=bAt c 3 from ⟨a,List.mem_cons_self ..,e⟩)]
   split <;> rfl
  ·rw[if_neg e,ih]
   by_cases q:∃ a∈r,bAt a 3=bAt c 3
   ·obtain⟨x,h1,h2⟩:=q
    rw[if_pos ⟨x,h1,h2⟩,if_pos ⟨x,List.mem_cons_of_mem _ h1,h2⟩]
   ·rw[if_neg q,if_neg (fun⟨x,h1,h2⟩=>(List.mem_cons.1 h1).elim (fun e2=>e (by rw[←e2];exact h2)) fun h3=>q ⟨x,h3,h2⟩)]
theorem K_137{c:List F}:∀ (l:List (List F)) (f:Bool),(∃ a∈l,bAt a 3=bAt c 3∧valsP a≠valsP c)→dupG c l f=none
 | [],f,h=>by obtain⟨a,h,_⟩:=h;cases h
 | a :: r,f,h=>by
  show (if bAt a 3=bAt c 3 then(if valsP a=valsP c then dupG c r false else none) else dupG c r f)=_
  obtain⟨x,h1,h2,h3⟩:=h
  by_cases e:bAt a 3=bAt c 3
  ·rw[if_pos e]
   by_cases v:valsP a=valsP c
   ·rw[if_pos v]
    refine K_137 r _ ⟨x,(List.mem_cons.1 h1).elim (fun e2=>absurd v (by rw[←e2];exact h3)) id,h2,h3⟩
   ·rw[if_neg v]
  ·rw[if_neg e]
   exact K_137 r _ ⟨x,(List.mem_cons.1 h1).elim (fun e2=>absurd h2 (by rw[e2];exact e)) id,h2,h3⟩
structure Own(acc pre:List (List F)):Prop where
 all:∀ a∈pre,∃ b∈acc,bAt b 3=bAt a 3∧valsP b=valsP a
 sub:∀ b∈acc,b∈pre
 nodup:(acc.map (bAt · 3)).Nodup
theorem K_18n{acc:List (List F)}(h:(acc.map (bAt · 3)).Nodup){a b:List F}(ha:a∈acc)(hb:b∈acc)(e:bAt a 3=bAt b 3):a=b:=by
 obtain⟨i,hi,rfl⟩:=List.getElem_of_mem ha
 obtain⟨j,hj,rfl⟩:=List.getElem_of_mem hb
 have:i=j:=by
  have h1:(acc.map (bAt · 3))[i]'(by simpa using hi)=(acc.map (bAt · 3))[j]'(by simpa using hj):=by simpa using e
  exact(List.getElem_inj h).1 h1
 subst this;rfl
theorem Own.find{acc pre:List (List F)}(O:Own acc pre)(c:List F):dupG c pre true=match acc.find? (fun a=>bAt a 3 == bAt c 3) with | none=>some true | some b=>if valsP b=valsP c then some false else none:=by
 cases hf:acc.find? (fun a=>bAt a 3 == bAt c 3) with
 | none=>
  have hno:∀ a∈pre,bAt a 3≠bAt c 3:=fun a ha e=>by
   obtain⟨b,hb,h1,_⟩:=O.all a ha
   have:=List.find?_eq_none.1 hf b hb
   simp[h1,e]at this
  rw[K_16x pre true (fun a ha e=>absurd e (hno a ha)),if_neg (fun⟨a,ha,e⟩=>hno a ha e)]
 | some b=>
  have hb:b∈acc:=List.mem_of_find?_eq_some hf
  have hbi:bAt b 3=bAt c 3:=by have:=List.find?_some hf;simpa using this
  have hsame:∀ a∈pre,bAt a 3=bAt c 3→valsP a=valsP b:=fun a ha e=>by
   obtain⟨b',h0,h1,h2⟩:=O.all a ha
   have:b'=b:=K_18n O.nodup h0 hb (by omega)
   rw[←h2,this]
  dsimp only
  by_cases v:valsP b=valsP c
  ·rw[if_pos v,K_16x pre true (fun a ha e=>(hsame a ha e).trans v),if_pos ⟨b,O.sub b hb,hbi⟩]
  ·rw[if_neg v]
   exact K_137 pre true ⟨b,O.sub b hb,hbi,v⟩
theorem Own.skip{acc pre:List (List F)}(O:Own acc pre){c b:List F}(hf:acc.find? (fun a=>bAt a 3 == bAt c 3)=some b)(v:valsP b=valsP c):Own acc (pre ++ [c]):=
 ⟨fun a ha=>(List.mem_append.1 ha).elim (O.all a) fun h=>by
  rw[List.mem_singleton.1 h]
  exact⟨b,List.mem_of_find?_eq_some hf,by have:=List.find?_some hf;simpa using this,v⟩,fun x hx=>List.mem_append_left _ (O.sub x hx),O.nodup⟩
theorem Own.add{acc pre:List (List F)}(O:Own acc pre){c:List F}(hf:acc.find? (fun a=>bAt a 3 == bAt c 3)=none):Own (acc ++ [c]) (pre ++ [c]):=by
 refine⟨fun a ha=>(List.mem_append.1 ha).elim (fun h=>?_) fun h=>?_,fun x hx=>?_,?_⟩
 ·obtain⟨b,h1,h2⟩:=O.all a h
  exact⟨b,List.mem_append_left _ h1,h2⟩
 ·rw[List.mem_singleton.1 h]
  exact⟨c,List.mem_append_right _ (List.mem_singleton.2 rfl),rfl,rfl⟩
 ·rcases List.mem_append.1 hx with h | h
  ·exact List.mem_append_left _ (O.sub x h)
  ·exact List.mem_append_right _ h
 ·rw[List.map_append]
  refine List.nodup_append.2 ⟨O.nodup,by simp,fun x hx y hy=>?_⟩
  obtain⟨a,ha,rfl⟩:=List.mem_map.1 hx
  have hy:y=bAt c 3:=by simpa using hy
  rw[hy]
  intro e
  have:=List.find?_eq_none.1 hf a ha
  simp[e]at this
theorem K_1hs{K:Nat}(hK:18446744073709551616≤K){B B1 g:Nat}{s:Sl}{fa:Addr}{ps:List Pt}(hL:ps.length≤1000)(hgg:g<B)(hBB:B≤B1)(hv:∀ p∈ps,(valsP p.1).length≤1000)(hoff:(∀ k,s.blk=some k→k<B1)∧∀ p∈ps,∀ q,p.2.1.a=some q→q.block<B1):
  ∀ (d i m:Nat) (w:World) (own:Sl) (os:List Pt),i+d=ps.length→d<m→B1≤w.heap.size→PtAt B w s ps→PtAt B w own os→(∀ k,own.blk=some k→B1≤k)→(∀ p∈os,∀ q,p.2.1.a=some q→q.block<B1)→os.length≤i→Bk 105 w g (ptC pt0)→Own (os.map (·.1)) ((ps.map (·.1)).take i)→
   ∃ w',Upd (fun k=>own.blk=some k∨k=g) w w'∧Bk 105 w' g (ptC pt0)∧match ownL (os.map (·.1)) ((ps.map (·.1)).drop i) with
    | some l'=>∃ own' os',K_x K m ⟨g,0,none⟩ s fa own (i:Int) w=some (.norm (own',()),w')∧PtAt B w' own' os'∧os'.map (·.1)=l'
    | none=>K_x K m ⟨g,0,none⟩ s fa own (i:Int) w=some (.ret (⟨none,0,0⟩,⟨g,0,none⟩,116,()),w'):=by
 intro d
 induction d with
 | zero=>
  intro i m w own os hi hm hB hS hA hl hvl hai hb hO
  obtain⟨m,rfl⟩:∃ q,m=q+1:=⟨m - 1,by omega⟩
  rw[List.drop_eq_nil_of_le (by rw[List.length_map];omega)]
  refine⟨w,Upd.refl _ _,hb,own,os,?_,hA,rfl⟩
  have:=hS.size
  show K_79 K (K_x K m) ⟨g,0,none⟩ s fa own (i:Int) w=_
  unfold K_79
  rw[if_neg (by simp only[decide_eq_true_eq];omega)]
 | succ d ih=>
  intro i m w own os hi hm hB hS hA hl hvl hai hb hO
  obtain⟨m,rfl⟩:∃ q,m=q+1:=⟨m - 1,by omega⟩
  have hil:i<ps.length:=by omega
  have hsz:=hS.size
  have e3:IntKind.i64.wrap ((i:Int)+1)=((i+1:Nat):Int):=by rw[w64 (by omega) (by omega)];rfl
  have hd:(ps.map (·.1)).drop i=(ps.getD i pt0).1 :: (ps.map (·.1)).drop (i+1):=by
   rw[K_gg [] (by rw[List.length_map];exact hil),K_e3 (·.1) ps pt0 [] hil]
  have ht:(ps.map (·.1)).take (i+1)=(ps.map (·.1)).take i ++ [(ps.getD i pt0).1]:=by
   rw[List.take_succ_eq_append_getElem (by rw[List.length_map];exact hil),List.getElem_map,J_gd,J_ge hil];rfl
  have c2:(0:Int)≤(i:Int)∧(i:Int)<((s.len:Nat):Int):=by omega
  obtain⟨w1,k1,k2,k3⟩:=K_1jb (K:=K) (own:=own) (fa:=fa) hL hil hgg hv i 0 K w true (by omega) (by omega) hS hb
  have k1:K_1z K K ⟨g,0,none⟩ s fa own (i:Int) true 0 w=_:=k1
  rw[List.drop_zero,hO.find]at k1
  have hBg:∀ {s':Sl} {qs:List Pt},PtAt B w s' qs→PtAt B w1 s' qs:=fun h=>h.updS k2 (fun k hk e=>by have:=h.low k hk;omega) (fun p hp q hq e=>by have:=(h.off p hp q hq).2.1;omega)
  have z1:=k2.size
  have step:K_x K (m+1) ⟨g,0,none⟩ s fa own (i:Int) w=(bnd (K_1z K K ⟨g,0,none⟩ s fa own (i:Int) true 0 w) fun y_58 w_59=>
   (match y_58 with
   | .norm z_60n=>(if z_60n.1=true then((s.a).bind fun p_61=>
   if (0:Int)≤(i:Int)∧(i:Int)<((s.len:Nat):Int) then((ldA 6 (p_61.add ((Int.toNat (i:Int))*6)) w_59).bind fun v_62=>
   bnd (bldS prog 129 1 #[(0,(.agg v_62))] w_59) fun s_63 w_64=>
   bnd (apd prog 129 129 (.slice own.a own.len own.cap) (.slice s_63.a s_63.len s_63.cap) w_64) fun s_65 w_66=>
   K_x K m ⟨g,0,none⟩ s fa s_65 ((i+1:Nat):Int) w_66) else none) else(K_x K m ⟨g,0,none⟩ s fa own ((i+1:Nat):Int) w_59))
   | .ret z_60r=>(some (.ret (z_60r.1,z_60r.2.1,z_60r.2.2.1,()),w_59)))):=by
   show K_79 K (K_x K m) ⟨g,0,none⟩ s fa own (i:Int) w=_
   unfold K_79
   rw[if_pos (decide_eq_true (show (i:Int)<((s.len:Nat):Int) by omega)),e3] <;> rfl
  rw[step,hd]
  cases hf:(os.map (·.1)).find? (fun a=>bAt a 3 == bAt (ps.getD i pt0).1 3) with
  | some b=>
   rw[K_yz hf]
   rw[hf]at k1
   dsimp only at k1
   by_cases v:valsP b=valsP (ps.getD i pt0).1
   ·rw[if_pos v]at k1
    rw[k1,bnd_ok,if_pos v]
    dsimp only
    rw[if_neg (by decide)]
    obtain⟨w',n1,n2,n3⟩:=ih (i+1) m w1 own os (by omega) (by omega) (by omega) (hBg hS) (hBg hA) hl hvl (by omega) k3 (by rw[ht];exact hO.skip hf v)
    exact⟨w',(k2.mono (T:=fun k=>own.blk=some k∨k=g) fun _ _ e=>.inr e).trans' n1 fun _ _ e=>e,n2,n3⟩
   ·rw[if_neg v]at k1
    rw[k1,bnd_ok,if_neg v]
    exact⟨w1,k2.mono fun _ _ e=>.inr e,k3,rfl⟩
  | none=>
   rw[K_po hf]
   rw[hf]at k1
   dsimp only at k1
   rw[k1,bnd_ok]
   dsimp only
   rw[if_pos rfl]
   obtain⟨p,p1,p2,_⟩:=(hBg hS).ld hil
   have hmem:=K_no pt0 hil
   obtain⟨w2,s',w3,d1,d2,d3,d4,d5⟩:=(hBg hA).push (by omega) (by omega) ((hBg hS).src _ hmem) (fun q hq=>⟨fun e=>by have:=hl _ e;have:=hoff.2 _ hmem q hq;omega,((hBg hS).off _ hmem q hq).2⟩)
   have z3:=d4.size
   have u3:Upd (fun k=>own.blk=some k∨k=g) w w3:=(k2.mono (T:=fun k=>own.blk=some k∨k=g) fun _ _ e=>.inr e).trans' d4 fun _ _ e=>.inl e
   obtain⟨w',n1,n2,n3⟩:=ih (i+1) m w3 s' (os ++ [ps.getD i pt0]) (by omega) (by omega) (by omega) ((hBg hS).updS d4 (fun k hk e=>by have:=hl _ e;have:=hoff.1 k hk;omega) (fun p hp q hq e=>by have:=hl _ e;have:=hoff.2 p hp q hq;omega)) d3 (fun k hk=>(d5 k hk).elim (hl k) fun e=>by omega) (fun p hp q hq=>(List.mem_append.1 hp).elim (fun h=>hvl p h q hq) fun h=>by rw[List.mem_singleton.1 h]at hq;exact hoff.2 _ hmem q hq) (by rw[List.length_append];show os.length+1≤_;omega) (k3.upd d4 fun e=>by have:=hl _ e;omega) (by rw[ht,List.map_append];exact hO.add hf)
   refine⟨w',u3.trans' n1 fun k hk e=>e.elim (fun e=>(d5 k e).elim .inl fun e2=>absurd hk (by omega)) .inr,n2,?_⟩
   rw[p1,J_bs,if_pos c2,J_tn,p2,J_bs,d1,bnd_ok]
   dsimp only
   rw[d2,bnd_ok]
   rw[List.map_append]at n3
   exact n3
end Go.Sh

namespace Go.Sh
open Go.Fw Go.Gf Go.Sha Go.RowKit Go.Proofs.Tryd
def PtLt(N:Nat)(s:Sl)(ps:List Pt):Prop:=(∀ k,s.blk=some k→k<N)∧∀ p∈ps,∀ q,p.2.1.a=some q→q.block<N
theorem PtAt.lt{B:Nat}{w:World}{s:Sl}{ps:List Pt}(h:PtAt B w s ps):PtLt w.heap.size s ps:=⟨fun k hk=>h.str.1.lt hk,fun p hp q hq=>(h.off p hp q hq).2.2⟩
theorem PtLt.wide{N M:Nat}{s:Sl}{ps:List Pt}(h:PtLt N s ps)(hM:N≤M):PtLt M s ps:=⟨fun k hk=>Nat.lt_of_lt_of_le (h.1 k hk) hM,fun p hp q hq=>Nat.lt_of_lt_of_le (h.2 p hp q hq) hM⟩
theorem PtAt.updN{B N:Nat}{w w':World}{s:Sl}{ps:List Pt}{X:Nat→Prop}(h:PtAt B w s ps)(hl:PtLt N s ps)(u:Upd X w w')(hn:∀ k,B≤k→k<N→¬X k):PtAt B w' s ps:=
 h.updS u (fun k hk=>hn k (h.low k hk) (hl.1 k hk)) fun p hp q hq=>hn _ (h.off p hp q hq).2.1 (hl.2 p hp q hq)
theorem K_1is{K:Nat}(hK:18446744073709551616≤K){a3 fa:Addr}{own out t m20:Sl}{os:List Pt}{v:Int}{need i B N:Nat}(hneed:need≤16)(hi:i<os.length)(hl:PtLt N own os):
  ∀ (d j m:Nat) (w:World) (r:Sl),j+d=need→d<m→N≤w.heap.size→PtAt B w own os→OwnS 5 w r (fb (powsL (idxF (os.getD i pt0).1) j))→(∀ k,r.blk=some k→N≤k)→
   ∃ r' w',K_3m K m a3 fa own (need:Int) out t v m20 (i:Int) r (j:Int) w=some ((r',()),w')∧OwnS 5 w' r' (fb (powsL (idxF (os.getD i pt0).1) need))∧Upd (fun k=>r.blk=some k) w w'∧∀ k,r'.blk=some k→r.blk=some k∨w.heap.size≤k:=by
 intro d
 induction d with
 | zero=>
  intro j m w r hj hm hN hS ho hr
  obtain⟨m,rfl⟩:∃ q,m=q+1:=⟨m - 1,by omega⟩
  have:j=need:=by omega
  subst this
  refine⟨r,w,?_,ho,Upd.refl _ _,fun k hk=>.inl hk⟩
  show K_7j K (K_3m K m) a3 fa own (j:Int) out t v m20 (i:Int) r (j:Int) w=_
  unfold K_7j
  rw[if_neg (by simp only[decide_eq_true_eq];omega)]
 | succ d ih=>
  intro j m w r hj hm hN hS ho hr
  obtain⟨m,rfl⟩:∃ q,m=q+1:=⟨m - 1,by omega⟩
  have hsz:=hS.size
  have e3:IntKind.i64.wrap ((j:Int)+1)=((j+1:Nat):Int):=by rw[w64 (by omega) (by omega)];rfl
  obtain⟨p,p1,_,_,p2,_⟩:=hS.ld hi
  have c1:(0:Int)≤(i:Int)∧(i:Int)<((own.len:Nat):Int):=by omega
  obtain⟨w1,r1,w2,a1,a2,a4,a5,a6⟩:=K_ez ho (by rw[K_ds];omega) (F.pow (idxF (os.getD i pt0).1) j)
  rw[←K_15h]at a4
  have z2:=a5.size
  obtain⟨r',w',k1,k2,k3,k4⟩:=ih (j+1) m w2 r1 (by omega) (by omega) (by omega) (hS.updN hl a5 fun k _ hk e=>by have:=hr k e;omega) a4 (fun k hk=>(a6 k hk).elim (hr k) fun e=>by omega)
  refine⟨r',w',?_,k2,a5.trans' k3 fun k hk e=>(a6 k e).elim id fun e2=>absurd hk (by omega),fun k hk=>(k4 k hk).elim (a6 k) fun e=>.inr (by omega)⟩
  show K_7j K (K_3m K m) a3 fa own (need:Int) out t v m20 (i:Int) r (j:Int) w=_
  unfold K_7j
  have x1:IntKind.u8.wrap ((bAt (os.getD i pt0).1 3:Nat):Int)=bF (idxF (os.getD i pt0).1):=K_7o
  rw[if_pos (decide_eq_true (show (j:Int)<(need:Int) by omega)),p1,J_bs,if_pos c1,J_tn,p2,J_bs,x1,K_17j (by omega) _ _ (by omega) (by omega),J_bs,a1,bnd_ok]
  dsimp only
  rw[a2,bnd_ok,e3,k1]
theorem K_pp(L:List (List F))(v n:Nat):ptsL (L.take n) v=(ptsL L v).take n:=by unfold ptsL;rw[List.map_take]
theorem K_zd{l:List F}{v:Nat}(h:v<l.length):l[v]=l.getD v 0:=by rw[J_gd,J_ge h];rfl
theorem K_1j7{K:Nat}(hK:18446744073709551616≤K){a3 fa:Addr}{own out t:Sl}{os:List Pt}{v need B N B1:Nat}(hneed:need≤16)(hL:os.length≤1000)(hl:PtLt N own os)(hN:N≤B1)(hv:∀ p∈os,v<(valsP p.1).length)(hvl:∀ p∈os,(valsP p.1).length≤1000):
  ∀ (d i m:Nat) (w:World) (mm:Sl) (ms:List Sl) (N':Nat),i+d=os.length→d<m→B1≤N'→N'≤w.heap.size→PtAt B w own os→RowsAt w mm ms ((ptsL ((os.map (·.1)).take i) v).map (rowE need)) (need+1) B1 N'→
   ∃ mm' ms' w',K_3x K m a3 fa own (need:Int) out t (v:Int) mm (i:Int) w=some ((mm',()),w')∧RowsAt w' mm' ms' ((ptsL (os.map (·.1)) v).map (rowE need)) (need+1) B1 w'.heap.size∧Upd (fun k=>B1≤k) w w':=by
 intro d
 induction d with
 | zero=>
  intro i m w mm ms N' hi hm hBN hN' hS hR
  obtain⟨m,rfl⟩:∃ q,m=q+1:=⟨m - 1,by omega⟩
  have hsz:=hS.size
  rw[List.take_of_length_le (by rw[List.length_map];omega)]at hR
  refine⟨mm,ms,w,?_,hR.wide hN',Upd.refl _ _⟩
  show K_7d K (K_3x K m) a3 fa own (need:Int) out t (v:Int) mm (i:Int) w=_
  unfold K_7d
  rw[if_neg (by simp only[decide_eq_true_eq];omega)]
 | succ d ih=>
  intro i m w mm ms N' hi hm hBN hN' hS hR
  obtain⟨m,rfl⟩:∃ q,m=q+1:=⟨m - 1,by omega⟩
  have hil:i<os.length:=by omega
  have hsz:=hS.size
  have e3:IntKind.i64.wrap ((i:Int)+1)=((i+1:Nat):Int):=by rw[w64 (by omega) (by omega)];rfl
  have c1:(0:Int)≤(i:Int)∧(i:Int)<((own.len:Nat):Int):=by omega
  have hmem:=K_no pt0 hil
  obtain⟨r1,w1,a1,a2,a3',a4⟩:=K_1is hK (a3:=a3) (fa:=fa) (out:=out) (t:=t) (m20:=mm) (v:=(v:Int)) hneed hil hl need 0 K w nilF (by omega) (by omega) (by omega) hS (OwnS.nil _ _) (fun k hk=>by cases hk)
  have a1:K_3m K K a3 fa own (need:Int) out t (v:Int) mm (i:Int) ⟨none,0,0⟩ 0 w=_:=a1
  have u1:Upd none_ w w1:=a3'.mono fun k _ e=>by cases e
  have hS1:=hS.upd0 u1
  obtain⟨p,p1,_,_,_,p3⟩:=hS1.ld hil
  have hsrc:=hS1.src _ hmem
  obtain⟨q,q1,q2⟩:=K_1a hsrc (hv _ hmem)
  have hvl1:=hvl _ hmem
  have hvv:=hv _ hmem
  have hsl:(os.getD i pt0).2.1.len=(valsP (os.getD i pt0).1).length:=by rw[hsrc.len,K_1]
  have c2:(0:Int)≤(v:Int)∧(v:Int)<(((os.getD i pt0).2.1.len:Nat):Int):=by omega
  have hgv:(valsP (os.getD i pt0).1)[v]=(valsP (os.getD i pt0).1).getD v 0:=K_zd hvv
  rw[hgv]at q2
  obtain⟨w2,r2,w3,b1,b2,b4,b5,b6⟩:=K_ez a2 (by rw[K_ds];omega) ((valsP (os.getD i pt0).1).getD v 0)
  have b4:OwnS 5 w3 r2 (fb (rowE need (idxF (os.getD i pt0).1,(valsP (os.getD i pt0).1).getD v 0))):=b4
  have z1:=u1.size
  have z3:=b5.size
  have hr1:∀ k,r1.blk=some k→w.heap.size≤k:=fun k hk=>(a4 k hk).elim (fun e=>by cases e) id
  have hr2:∀ k,r2.blk=some k→w.heap.size≤k:=fun k hk=>(b6 k hk).elim (hr1 k) fun e=>by omega
  have u3:Upd none_ w w3:=u1.trans' b5 fun k hk e=>absurd hk (by have:=hr1 k e;omega)
  have hRl:((ptsL ((os.map (·.1)).take i) v).map (rowE need)).length≤4096:=by rw[List.length_map];unfold ptsL;rw[List.length_map,List.length_take,List.length_map];omega
  obtain⟨w4,mm2,w5,d1,d2,d3,d4⟩:=(hR.upd0 u3).push hRl b4 (K_112 _ _) (fun k hk=>by have:=hr2 k hk;omega) (by omega) hBN
  have hrow:(ptsL ((os.map (·.1)).take i) v).map (rowE need) ++ [rowE need (idxF (os.getD i pt0).1,(valsP (os.getD i pt0).1).getD v 0)]=(ptsL ((os.map (·.1)).take (i+1)) v).map (rowE need):=by
   rw[List.take_succ_eq_append_getElem (by rw[List.length_map];exact hil)]
   unfold ptsL
   rw[List.map_append,List.map_append,List.getElem_map,J_gd,J_ge hil];rfl
  rw[hrow]at d3
  have u5:Upd (fun k=>B1≤k) w w5:=(u3.mono (T:=fun k=>B1≤k) fun _ _ e=>e.elim).trans' d4 fun k _ e=>e.1
  have z5:=d4.size
  obtain⟨mm',ms',w',k1,k2,k3⟩:=ih (i+1) m w5 mm2 _ w5.heap.size (by omega) (by omega) (by omega) (Nat.le_refl _) (hS.updN hl u5 fun k _ hk e=>by omega) d3
  refine⟨mm',ms',w',?_,k2,u5.trans' k3 fun _ _ e=>e⟩
  show K_7d K (K_3x K m) a3 fa own (need:Int) out t (v:Int) mm (i:Int) w=_
  unfold K_7d
  rw[if_pos (decide_eq_true (show (i:Int)<((own.len:Nat):Int) by omega)),a1,bnd_ok,p1,J_bs,if_pos c1,J_tn,p3,J_bs,q1,J_bs,if_pos c2,J_tn,Nat.mul_one,q2,J_bs,b1,bnd_ok]
  dsimp only
  rw[b2,bnd_ok,d1,bnd_ok]
  dsimp only
  rw[d2,bnd_ok,e3,k1]
structure OutAt(B:Nat) (w:World) (s:Sl) (ss:List Sl) (R:List (List F)):Prop where
 own:OwnS 23 w s (ss.map slF)
 len:ss.length=R.length
 row:∀ i,i<R.length→BSrc w (ss.getD i nilF) (R.getD i [])
 low:∀ k,s.blk=some k→B≤k
 off:∀ i,i<R.length→∀ q,(ss.getD i nilF).a=some q→s.blk≠some q.block∧B≤q.block∧q.block<w.heap.size
theorem OutAt.nil(B:Nat)(w:World):OutAt B w nilF [] []:=⟨OwnS.nil _ _,rfl,fun i hi=>absurd hi (Nat.not_lt_zero i),(fun k hk=>by cases hk),fun i hi=>absurd hi (Nat.not_lt_zero i)⟩
theorem OutAt.size{B:Nat}{w:World}{s:Sl}{ss:List Sl}{R:List (List F)}(h:OutAt B w s ss R):s.len=R.length:=by rw[h.own.len,List.length_map,h.len]
theorem OutAt.updS{B:Nat}{w w':World}{s:Sl}{ss:List Sl}{R:List (List F)}{X:Nat→Prop}(h:OutAt B w s ss R)(u:Upd X w w')(h1:∀ k,s.blk=some k→¬X k)(h2:∀ i,i<R.length→∀ q,(ss.getD i nilF).a=some q→¬X q.block):OutAt B w' s ss R:=
 ⟨h.own.upd u h1,h.len,fun i hi=>Fw.Src.upd (h.row i hi) u (h2 i hi),h.low,fun i hi q hq=>⟨(h.off i hi q hq).1,(h.off i hi q hq).2.1,Nat.lt_of_lt_of_le (h.off i hi q hq).2.2 u.size⟩⟩
theorem OutAt.upd0{B:Nat}{w w':World}{s:Sl}{ss:List Sl}{R:List (List F)}(h:OutAt B w s ss R)(u:Upd none_ w w'):OutAt B w' s ss R:=h.updS u (fun _ _=>id) fun _ _ _ _=>id
theorem OutAt.push{B:Nat}{w:World}{s:Sl}{ss:List Sl}{R:List (List F)}(h:OutAt B w s ss R)(hB:B≤w.heap.size)(hR:R.length≤4096){x:Sl}{r:List F}(hx:BSrc w x r)(hf:∀ q,x.a=some q→s.blk≠some q.block∧B≤q.block∧q.block<w.heap.size):
  ∃ w1 s' w',bldS prog 67 1 #[(0,slF x)] w=some (⟨some ⟨w.heap.size,0,none⟩,1,1⟩,w1)∧apd prog 67 67 (.slice s.a s.len s.cap) (.slice (some ⟨w.heap.size,0,none⟩) 1 1) w1=some (s',w')∧OutAt B w' s' (ss ++ [x]) (R ++ [r])∧Upd (fun k=>s.blk=some k) w w'∧∀ k,s'.blk=some k→s.blk=some k∨w.heap.size≤k:=by
 obtain⟨w1,a1,a2,a3,a4⟩:=K_8u sliceR (slF x) rfl w
 have hrl:=h.size
 obtain⟨s',w',b1,b2,b3,b4,b5⟩:=K_1e sliceR (h.own.upd0 a3) (a2.src (fun v hv=>by simp only[List.mem_singleton]at hv;rw[hv];rfl)) (by show (s.len+1)*24≤_;omega)
 have q1:=a3.size
 have q2:=b4.size
 have u:Upd (fun k=>s.blk=some k) w w':=(a3.mono (T:=fun k=>s.blk=some k) fun _ _ e=>e.elim).trans' b4 fun _ _ e=>e
 have hs':∀ k,s'.blk=some k→s.blk=some k∨w.heap.size≤k:=fun k hk=>by
  rcases b5 with e | e
  ·rw[e]at hk;exact .inl hk
  ·rw[e]at hk;have e2:w1.heap.size=k:=Option.some.inj hk;exact .inr (by omega)
 have hbm:(ss.map slF ++ [slF x])=(ss ++ [x]).map slF:=by simp
 have b3:OwnS 23 w' s' ((ss ++ [x]).map slF):=by rw[←hbm];exact b3
 have hi2:∀ i,i<(R ++ [r]).length→¬i<R.length→i=R.length:=fun i hi e=>by rw[List.length_append]at hi;have:[r].length=1:=rfl;omega
 refine⟨w1,s',w',a1,b1,⟨b3,by rw[List.length_append,List.length_append,h.len];rfl,fun i hi=>?_,fun k hk=>(hs' k hk).elim (h.low k) fun e=>by omega,fun i hi q hq=>?_⟩,u,hs'⟩
 ·by_cases e:i<R.length
  ·rw[K_cy _ _ _ _ (by rw[h.len];exact e),K_cy _ _ _ _ e]
   exact Fw.Src.upd (h.row i e) u fun q hq=>(h.off i e q hq).1
  ·rw[hi2 i hi e,K_cr _ _ _ h.len,K_cr _ _ _ rfl]
   exact Fw.Src.upd hx u fun q hq=>(hf q hq).1
 ·have hh:s.blk≠some q.block∧B≤q.block∧q.block<w.heap.size:=by
   by_cases e:i<R.length
   ·rw[K_cy _ _ _ _ (by rw[h.len];exact e)]at hq
    exact h.off i e q hq
   ·rw[hi2 i hi e,K_cr _ _ _ h.len]at hq
    exact hf q hq
  exact⟨fun e=>(hs' _ e).elim hh.1 fun e2=>by omega,hh.2.1,by omega⟩
end Go.Sh

namespace Go.Sh
open Go.Fw Go.Gf Go.Sha Go.RowKit Go.Proofs.Tryd
theorem K_1li{a b:Nat}(ha:a<256)(hb:b<256)(h:b8 a=b8 b):a=b:=by
 have:(b8 a).n=(b8 b).n:=by rw[h]
 have h1:a % 256=b % 256:=this
 omega
theorem K_1fi{L:List (List F)}(h:(L.map (bAt · 3)).Nodup):(L.map idxF).Nodup:=by
 have e:L.map idxF=(L.map (bAt · 3)).map b8:=by rw[List.map_map];rfl
 rw[e]
 unfold List.Nodup at h ⊢
 rw[List.pairwise_map]at h ⊢
 rw[List.pairwise_map]
 exact h.imp fun {a b} hab hb=>hab (K_1li (K_2u _ _) (K_2u _ _) hb)
theorem K_1ig(L:List (List F))(v:Nat):(ptsL L v).map (·.1)=L.map idxF:=by unfold ptsL;rw[List.map_map];rfl
theorem K_1b7(L:List (List F))(v:Nat):(ptsL L v).length=L.length:=by unfold ptsL;rw[List.length_map]
theorem K_1do{l:List F}(h:0<l.length):ev l 0=l.getD 0 0:=by
 cases l with
 | nil=>simp at h
 | cons c r=>rw[K_40,F.zero_mul,F.add_zero];rfl
def lagV(L:List (List F))(need v:Nat)(x:F):F:=lag ((ptsL L v).take need) x
theorem K_1i0{K:Nat}(hK:18446744073709551616≤K){own:Sl}{os:List Pt}{p0:Pt}{need n g g1 B N B0:Nat}(h1:1≤need)(hneed:need≤16)(hno:need≤os.length)(hL:os.length≤1000)(hl:PtLt N own os)(hN:N≤B0)(hgB:g<B)(hBN:B≤N)(hgg:g≠g1)(hg1:g1<N)(hv:∀ p∈os,(valsP p.1).length=n)(hp0:p0.2.1.len=n)(hn:n≤1000)(hnd:((os.map (·.1)).map idxF).Nodup):
  ∀ (d v m:Nat) (w:World) (out:Sl) (ss:List Sl) (R:List (List F)) (t:Sl),v+d=n→d<m→B0≤w.heap.size→PtAt B w own os→Bk 105 w g (ptC pt0)→Bk 105 w g1 (ptC p0)→OutAt B0 w out ss R→R.length=v→(∀ v',v'<v→(R.getD v' []).length=need∧∀ x,ev (R.getD v' []) x=lagV (os.map (·.1)) need v' x)→OwnS 5 w t (fb ((List.range v).map fun v'=>lagV (os.map (·.1)) need v' 0))→(∀ k,t.blk=some k→B0≤k∧out.blk≠some k)→(∀ i,i<R.length→∀ q,(ss.getD i nilF).a=some q→t.blk≠some q.block)→
   ∃ w',Upd (fun k=>B0≤k∨k=g) w w'∧Bk 105 w' g (ptC pt0)∧
    ((∀ v',v≤v'→v'<n→OnLine (ptsL (os.map (·.1)) v') need)→∃ out' ss' R' t',K_q K m ⟨g,0,none⟩ ⟨g1,0,none⟩ own (need:Int) out t (v:Int) w=some (.norm (out',t',()),w')∧OutAt B0 w' out' ss' R'∧R'.length=n∧(∀ v',v'<n→(R'.getD v' []).length=need∧∀ x,ev (R'.getD v' []) x=lagV (os.map (·.1)) need v' x)∧OwnS 5 w' t' (fb ((List.range n).map fun v'=>lagV (os.map (·.1)) need v' 0))∧∀ k,t'.blk=some k→B0≤k)∧
    ((¬∀ v',v≤v'→v'<n→OnLine (ptsL (os.map (·.1)) v') need)→K_q K m ⟨g,0,none⟩ ⟨g1,0,none⟩ own (need:Int) out t (v:Int) w=some (.ret (⟨none,0,0⟩,⟨g,0,none⟩,117,()),w')):=by
 intro d
 induction d with
 | zero=>
  intro v m w out ss R t hvd hm hB hS hb hb1 hO hRl hR ht ht1 ht2
  obtain⟨m,rfl⟩:∃ q,m=q+1:=⟨m - 1,by omega⟩
  have hvn:v=n:=by omega
  subst hvn
  have l4:ldS ((⟨g1,0,none⟩:Addr).add 4) w=some p0.2.1:=by simp only[add_lit,Nat.zero_add];exact hb1.ldS rfl
  refine⟨w,Upd.refl _ _,hb,fun _=>⟨out,ss,R,t,?_,hO,hRl,hR,ht,fun k hk=>(ht1 k hk).1⟩,fun h=>absurd (fun v' h1 h2=>by omega) h⟩
  show K_7p K (K_q K m) ⟨g,0,none⟩ ⟨g1,0,none⟩ own (need:Int) out t (v:Int) w=_
  unfold K_7p
  rw[l4,J_bs,if_neg (by simp only[decide_eq_true_eq];omega)]
 | succ d ih=>
  intro v m w out ss R t hvd hm hB hS hb hb1 hO hRl hR ht ht1 ht2
  obtain⟨m,rfl⟩:∃ q,m=q+1:=⟨m - 1,by omega⟩
  have l4:ldS ((⟨g1,0,none⟩:Addr).add 4) w=some p0.2.1:=by simp only[add_lit,Nat.zero_add];exact hb1.ldS rfl
  have e3:IntKind.i64.wrap ((v:Int)+1)=((v+1:Nat):Int):=by rw[w64 (by omega) (by omega)];rfl
  obtain⟨mm,ms,w1,a1,a2,a3⟩:=K_1j7 hK (a3:=⟨g,0,none⟩) (fa:=⟨g1,0,none⟩) (out:=out) (t:=t) (need:=need) (v:=v) hneed hL (hl.wide (Nat.le_trans hN hB)) (Nat.le_refl _) (fun p hp=>by rw[hv p hp];omega) (fun p hp=>by rw[hv p hp];omega) os.length 0 K w nilF [] w.heap.size (by omega) (by omega) (Nat.le_refl _) (Nat.le_refl _) hS (RowsAt.nil _ _ _)
  have a1:K_3x K K ⟨g,0,none⟩ ⟨g1,0,none⟩ own (need:Int) out t (v:Int) ⟨none,0,0⟩ 0 w=_:=a1
  have u1:Upd none_ w w1:=a3.mono fun k hk e=>by omega
  have hrl:((ptsL (os.map (·.1)) v).map (rowE need)).length=os.length:=by rw[List.length_map,K_1b7,List.length_map]
  obtain⟨y,ok,w2,b1,b2,b3⟩:=K_181 hK a2.into (by omega) (by omega) (by omega) (fun k hk=>(a2.low.1 k hk).2) (fun i hi k hk=>(a2.low.2 i hi k hk).2)
  have hline:=K_1ep (pts:=ptsL (os.map (·.1)) v) (n:=need) (by rw[K_1ig];exact hnd) (by rw[K_1b7,List.length_map];exact hno)
  have u2:=u1.and0 b2
  have z2:=u2.size
  have step:K_q K (m+1) ⟨g,0,none⟩ ⟨g1,0,none⟩ own (need:Int) out t (v:Int) w=(if (!ok)=true then((prog.built 105 []).bind fun cs_100=>
    if (cs_100).size=6 then((stA ⟨g,0,none⟩ cs_100 w2).bind fun w_101=>
    some (.ret (⟨none,0,0⟩,⟨g,0,none⟩,117,()),w_101)) else none) else(bnd (bldS prog 67 1 #[(0,(.slice y.a y.len y.cap))] w2) fun s_102 w_103=>
    bnd (apd prog 67 67 (.slice out.a out.len out.cap) (.slice s_102.a s_102.len s_102.cap) w_103) fun s_104 w_105=>
    (y.a).bind fun p_106=>
    if (0:Int)≤0∧0<((y.len:Nat):Int) then((ldI .u8 (p_106.add (0*1)) w_105).bind fun v_107=>
    bnd (bldS prog 23 1 #[(0,(.int .u8 v_107))] w_105) fun s_108 w_109=>
    bnd (apd prog 23 23 (.slice t.a t.len t.cap) (.slice s_108.a s_108.len s_108.cap) w_109) fun s_110 w_111=>
    K_q K m ⟨g,0,none⟩ ⟨g1,0,none⟩ own (need:Int) s_104 s_110 ((v+1:Nat):Int) w_111) else none)):=by
   show K_7p K (K_q K m) ⟨g,0,none⟩ ⟨g1,0,none⟩ own (need:Int) out t (v:Int) w=_
   unfold K_7p
   rw[l4,J_bs,if_pos (decide_eq_true (show (v:Int)<((p0.2.1.len:Nat):Int) by omega)),a1,bnd_ok,b1,bnd_ok,e3]
  cases hsv:Gf.solve need ((ptsL (os.map (·.1)) v).map (rowE need)) with
  | none=>
   rw[hsv]at b3 hline
   have b3:ok=false:=b3
   obtain⟨w3,d1,d2,d3⟩:=stP (hb.upd0 u2) pt0
   refine⟨w3,(u2.mono (T:=fun k=>B0≤k∨k=g) fun _ _ e=>e.elim).trans' d3 fun _ _ e=>.inr e,d2,fun h=>absurd (h v (Nat.le_refl _) (by omega)) hline,fun _=>?_⟩
   rw[step,b3,if_pos (by decide),K_ha,J_bs,if_pos (K_cv _),d1,J_bs]
  | some l=>
   rw[hsv]at b3 hline
   obtain⟨b4,b5,b6,b7⟩:=b3
   obtain⟨g1',g2,g3⟩:=hline
   have hyl:y.len=need:=by rw[b5.len,K_1,b7]
   have hyne:fb l≠[]:=fun e=>by have:=congrArg List.length e;rw[K_1,b7]at this;simp at this;omega
   have hO2:=hO.upd0 u2
   obtain⟨w3,out',w4,c1,c2,c3,c4,c5⟩:=hO2.push (by omega) (by omega) (b5.src (K_k _)) (fun q hq=>by
    have hk:y.blk=some q.block:=by simp[Sl.blk,hq]
    have:=b6 _ hk
    have:=u1.size
    refine⟨fun e=>by have:=hO.own.lt e;omega,by omega,b5.lt hk⟩)
   have ht4:OwnS 5 w4 t (fb ((List.range v).map fun v'=>lagV (os.map (·.1)) need v' 0)):=(ht.upd0 u2).upd c4 fun k hk e=>(ht1 k hk).2 e
   have hy4:=b5.upd c4 fun k hk e=>by have:=b6 k hk;have:=hO.own.lt e;have:=u1.size;omega
   obtain⟨p,p1,p2⟩:=K_ah hy4 (i:=0) (by omega)
   have hl0:l.getD 0 0=lagV (os.map (·.1)) need v 0:=by rw[←K_1do (by omega)];exact g2 0
   rw[hl0]at p2
   obtain⟨w5,t',w6,d1,d2,d3,d4,d5⟩:=K_ez ht4 (by rw[List.length_map,List.length_range];omega) (lagV (os.map (·.1)) need v 0)
   have hrng:((List.range v).map fun v'=>lagV (os.map (·.1)) need v' 0) ++ [lagV (os.map (·.1)) need v 0]=(List.range (v+1)).map fun v'=>lagV (os.map (·.1)) need v' 0:=by rw[List.range_succ,List.map_append];rfl
   rw[hrng]at d3
   have z4:=c4.size
   have z6:=d4.size
   have u4:Upd (fun k=>B0≤k∨k=g) w w4:=(u2.mono (T:=fun k=>B0≤k∨k=g) fun _ _ e=>e.elim).trans' c4 fun k _ e=>.inl (hO.low k e)
   have u6:Upd (fun k=>B0≤k∨k=g) w w6:=u4.trans' d4 fun k _ e=>.inl (ht1 k e).1
   have hout:∀ k,out'.blk=some k→t.blk≠some k:=fun k hk e=>(c5 k hk).elim (fun e2=>(ht1 k e).2 e2) fun e2=>by have:=ht.lt e;omega
   have hO6:OutAt B0 w6 out' (ss ++ [y]) (R ++ [l]):=c3.updS d4 (fun k hk e=>hout k hk e) (fun i hi q hq e=>by
    by_cases c:i<R.length
    ·rw[K_cy _ _ _ _ (by rw[hO.len];exact c)]at hq
     exact ht2 i c q hq e
    ·have:i=R.length:=by rw[List.length_append]at hi;have:[l].length=1:=rfl;omega
     rw[this,K_cr _ _ _ hO.len]at hq
     have:=b6 q.block (by simp[Sl.blk,hq])
     have:=ht.lt e
     have:=u1.size
     omega)
   obtain⟨w',k1,k2,k3,k4⟩:=ih (v+1) m w6 out' (ss ++ [y]) (R ++ [l]) t' (by omega) (by omega) (by omega) (hS.updN hl u6 fun k h1 h2 e=>by omega) (hb.upd0 u2 |>.upd c4 (fun e=>by have:=hO.low _ e;omega) |>.upd d4 (fun e=>by have:=(ht1 _ e).1;omega)) (hb1.upd0 u2 |>.upd c4 (fun e=>by have:=hO.low _ e;omega) |>.upd d4 (fun e=>by have:=(ht1 _ e).1;omega)) hO6 (by rw[List.length_append,hRl];rfl) (fun v' hv'=>by
     by_cases c:v'<v
     ·rw[K_cy _ _ _ _ (by omega)]
      exact hR v' c
     ·have:v'=v:=by omega
      rw[this,K_cr _ _ _ hRl]
      exact⟨b7,g2⟩) d3 (fun k hk=>(d5 k hk).elim (fun e=>⟨(ht1 k e).1,fun e2=>hout k e2 e⟩) fun e=>⟨by omega,fun e2=>by have:=c3.own.lt e2;omega⟩) (fun i hi q hq e=>by
     have hq2:=(c3.off i hi q hq).2.2
     rcases d5 _ e with e2 | e2
     ·by_cases c:i<R.length
      ·rw[K_cy _ _ _ _ (by rw[hO.len];exact c)]at hq
       exact ht2 i c q hq e2
      ·have:i=R.length:=by rw[List.length_append]at hi;have:[l].length=1:=rfl;omega
       rw[this,K_cr _ _ _ hO.len]at hq
       have:=b6 q.block (by simp[Sl.blk,hq])
       have:=ht.lt e2
       have:=u1.size
       omega
     ·omega)
   have run:K_q K (m+1) ⟨g,0,none⟩ ⟨g1,0,none⟩ own (need:Int) out t (v:Int) w=K_q K m ⟨g,0,none⟩ ⟨g1,0,none⟩ own (need:Int) out' t' ((v+1:Nat):Int) w6:=by
    have c0:(0:Int)≤0∧(0:Int)<((y.len:Nat):Int):=by omega
    rw[step,b4,if_neg (by decide),c1,bnd_ok]
    dsimp only
    rw[c2,bnd_ok,p1,J_bs,if_pos c0]
    have p2:ldI .u8 (p.add (0*1)) w4=_:=p2
    rw[p2,J_bs,d1,bnd_ok]
    dsimp only
    rw[d2,bnd_ok]
   refine⟨w',u6.trans' k1 fun _ _ e=>e,k2,fun h=>?_,fun h=>?_⟩
   ·rw[run]
    exact k3 fun v' h1 h2=>h v' (by omega) h2
   ·rw[run]
    exact k4 fun h'=>h fun v' h1 h2=>by
     by_cases c:v'=v
     ·rw[c];exact g3
     ·exact h' v' (by omega) h2
end Go.Sh
