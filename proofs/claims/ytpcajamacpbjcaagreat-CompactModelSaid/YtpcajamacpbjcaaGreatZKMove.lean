/- Texts laid together: Fwr SameP Same2 To Put HdM. -/
import Derived.Test.YtpcajamacpbjcaaGreatZKHeap
import Derived.Test.YtpcajamacpbjcaaGreatZKHead
import Derived.Laws.OwnMore
set_option maxHeartbeats 16000000
set_option maxRecDepth 100000
set_option linter.all false
namespace Go.Proofs.YtpcajamacpbjcaaGreat
open Lib (hid)
open Go.RowKit
variable {a f s:Int}{l:List Bk}{ws:List Nat}{xs:List Value}{H k n sz:Nat}{α:Type}{e:TypeId}{w:World}
open Go.Proofs.Tryz
def pg (m:Int × Int):List Value:=[.int .i64 m.1,.int .i64 m.2]
theorem sH(m:Int × Int):(pg m).length=2:=rfl
def RdM (w:World) (B:Nat) (A:Option Addr) (l:List (Int × Int)):Prop:=Rd w B A (l.flatMap pg)
theorem RdM.at_{B:Nat}{A:Option Addr}{l:List (Int × Int)}(h:RdM w B A l)(hk:k<l.length):
 ∃b a,A=some ⟨b,a,none⟩/\b<B/\w.cell? ⟨b,a+k*2,none⟩=some (.int .i64 l[k].1)/\w.cell? ⟨b,a+k*2+1,none⟩=some (.int .i64 l[k].2):=by obtain⟨b,a,e,d,c⟩:=Rd.at_flat sH h (by omega) hk;exact⟨b,a,e,d,c 0 (by omega),c 1 (by omega)⟩
theorem Eb:(prog.info? 275).map (λi=>(i.zero,i.size,i.bytes))=some (some (.agg #[.int .i64 0,.int .i64 0]),2,16):=by kernel_rfl
def xy (ws:List Nat) (f s:Int) (e:Ending) (w':World):Prop:=∃A c,e=.returned (.tuple #[.slice A (iE ws f s).length c,.int .i64 (a9 ws f s)])/\RdM w' w'.heap.size A (iE ws f s)/\(iE ws f s).length<=c
theorem kg{r:Int}{w':World}(hr:a9 ws f s=r)(h0:r≠0):xy ws f s (.returned (.tuple #[.slice none 0 0,.int .i64 r])) w':=by
 subst hr;have:iE ws f s=[]:=by simp[iE,h0]
 exact⟨none,0,by rw[this];rfl,by rw[this];exact Rd.nil_,by rw[this];simp⟩
theorem GJ(h:gt n f s=true):
 ((f%2 != 0)=true/\(f.tmod 2 != 0)=true) \/
 ((
  f%2 != 0)=false/\(f.tmod 2 != 0)=false)/\(((s%2 != 0)=true/\(s.tmod 2 != 0)=true) \/
  ((s%2 != 0)=false/\(s.tmod 2 != 0)=false)/\(s<128\/128<=s/\f<s\/(128<=s/\s<=f)/\(n:Int)<f)):=by
 rw[kq] at h;rw[pR,pR];by_cases c:f%2=0
 .have b:(f%2 != 0)=false:=by rw[kqq];exact c
  rw[b];refine .inr ⟨⟨rfl,rfl⟩,?_⟩;by_cases d:s%2=0
  .have a:(s%2 != 0)=false:=by rw[kqq];exact d
   rw[a];refine .inr ⟨⟨rfl,rfl⟩,?_⟩;omega
  have a:(s%2 != 0)=true:=by rw[kqt];exact d
  rw[a];exact .inl ⟨rfl,rfl⟩
 have b:(f%2 != 0)=true:=by rw[kqt];exact c
 rw[b];exact .inl ⟨rfl,rfl⟩
theorem yb(h:al (ws.length:Int)=false):a9 ws f s=8:=by unfold a9;rw[eI,h];rfl
theorem Av(h:al (ws.length:Int)=true)(h2:gt ws.length f s=true):a9 ws f s=2:=by unfold a9;rw[eI,h,h2];rfl
theorem wm(h:al (ws.length:Int)=true)(h2:gt ws.length f s=false)(h3:blocks ws f.toNat=none):a9 ws f s=50:=by unfold a9 lj;rw[eI,h,h2,h3];rfl
theorem At(h:al (ws.length:Int)=true)(h2:gt ws.length f s=false)(h3:blocks ws f.toNat=some l)(h4:bJ ws l s=false):a9 ws f s=50:=by rw[ia (by rw[eI];exact h) h2 h3,h4];rfl
theorem DW(h:al (ws.length:Int)=true)(h2:gt ws.length f s=false)(h3:blocks ws f.toNat=some l)(h4:bJ ws l s=true):a9 ws f s=0/\iE ws f s=aq l s:=by
 have a:a9 ws f s=0:=by rw[ia (by rw[eI];exact h) h2 h3,if_pos h4]
 exact⟨a,by unfold iE;rw[if_pos a,h3]⟩
theorem pG(h:gt n f s=false):eP n f=false:=by have:=fY h;simp only[eP,kzw,kqh,kqq];omega
theorem GR(hst:dD l s=0)(hk:k<l.length)(h:bJ ws (l.take k) s=true):
 (dm ws l[k]=false->bJ ws l s=false) /\
 (dm ws l[k]=true->aK l[k]=true->l[k].next≠bo l[k] (aI (l.take k) s)->bJ ws l s=false) /\
 (dm ws l[k]=true->aK l[k]=true->l[k].next=bo l[k] (aI (l.take k) s)->bJ ws (l.take (k+1)) s=true/\aq (l.take (k+1)) s=aq (l.take k) s++[(l[k].at_,((bo l[k] (aI (l.take k) s):Nat):Int))]) /\
 (dm ws l[k]=true->aK l[k]=false->bJ ws (l.take (k+1)) s=true/\aq (l.take (k+1)) s=aq (l.take k) s):=by
 obtain⟨g,i,j,_⟩:=dT hst;have hb:=kC g (kjq hk) i j;have c:=nZ (ws:=ws) hk s;have f:=vP hk s;rw[h,kzx] at c;have e:aK l[k]=true->bo l[k] (aI (l.take k) s)=(aI (l.take k) s).toNat:=λa=>by unfold bo;rw[if_pos a]
 refine⟨λb=>?_,λb a d=>?_,λb a d=>?_,λb a=>?_⟩
 .refine qo (k:=k+1) ?_;rw[c,b];rfl
 .refine qo (k:=k+1) ?_;rw[e a] at d;rw[c,b,a,show ((l[k].next:Int)==aI (l.take k) s)=false by rw[kqi];omega];rfl
 .rw[e a] at d |-;rw[c,f,b,a,show ((l[k].next:Int)==aI (l.take k) s)=true by rw[kqx];omega,kx2 (by omega)];exact⟨rfl,rfl⟩
 rw[c,f,b,a];exact⟨rfl,by simp⟩
theorem lK(l:List Bk):∀s,(aq l s).length<=l.length:=by
 induction l with
 | nil=>intro s;exact kqg _
 | cons b l ih =>
  intro s;simp only[aq];split
  .have:=ih (s+b.size);simp only[kzc];omega
  have:=ih s;simp only[kzc];omega
theorem qb(A:Option Addr)(ws:List Nat)(c n:Nat)(f s:Int)(w:World)(hn:ws.length=n)(hm:n<=9223372036854775807)(hf : -9223372036854775808<=f/\f<=9223372036854775807)(hs : -9223372036854775808<=s/\s<=9223372036854775807)(hr:RdW w w.heap.size A ws)(ho:∀x∈ws,x<18446744073709551616):
 Calls prog 161 #[.slice A n c,.int .i64 f,.int .i64 s] w λe w'=>xy ws f s e w'/\Below w.heap.size w w':=by
 subst hn;have HR:=hid hr;have HO:=hid ho;obtain⟨f1,f2⟩:=hf;obtain⟨s1,s2⟩:=hs;clear hr ho;cases hs:al (ws.length:Int)
 .have HI:=hid (bA hs);have HE:=hid (yb (f:=f) (s:=s) hs);clear hs;go_enter func161,ntmps161;go_wp2_with fail;refine (aF A ws.length c w hm).mono ?_;rintro e w1 ⟨rfl,rfl⟩;rw[HI.out];go_wp2;go_ret2;exact⟨kg HE.out (by omega),kql _ _⟩
 have HI:=hid (aW hs);obtain⟨Lb,hb2,U⟩:=fP ws hs;have HS:=hid hs;clear hs U;cases M:gt ws.length f s
 .have P:=hid M;obtain⟨a1,a2,a3,a4,a5⟩:=fY M;obtain⟨i,rfl⟩:=kq5 (show 0<=f by omega);obtain⟨u,rfl⟩:=kq5 (show 0<=s by omega);have Ky:=hid (λl (h:blocks ws i=some l)=>cj HS.out (pG P.out) (l:=l) (by rw[kqk];exact h));have Kv:=hid (λ(h:blocks ws i=none)=>dV HS.out (pG P.out) (by rw[kqk];exact h));have Ku:=hid (λl (h:blocks ws i=some l)=>kz (ws:=ws) (i:=i) (l:=l) (by omega) h (by omega) (by omega) (by omega) (s:=(u:Int)) (by omega) (by omega) (by omega));have Kx:=hid (λl (h:blocks ws i=some l)=>(bq (ws:=ws) (by omega) i l h (by omega) (by omega) (by omega)).1);have Lf:=hid (λl (h:blocks ws i=some l) k (hk:k<l.length) h1=>gG (ws:=ws) h (by omega) (k:=k) hk h1);have Jc:=hid (lG A ws c ws.length (i:Int) w rfl hm HR.out HO.out);unfold pM at Jc;have e1:((i:Int)%2 != 0)=false:=by rw[kqq];exact a1
  have e2:((u:Int)%2 != 0)=false:=by rw[kqq];exact a2
  have d1:decide ((u:Int)<128)=false:=by rw[kqh];omega
  have d2:decide ((i:Int)<(u:Int))=false:=by rw[kqh];omega
  have d2n:decide (i<u)=false:=by rw[kqh];omega
  have d3:decide ((ws.length:Int)<(i:Int))=false:=by rw[kqh];omega
  have d3n:decide (ws.length<i)=false:=by rw[kqh];omega
  have u0:(0:Int)<=(u:Int):=by omega
  have i0':(0:Int)<=(i:Int):=by omega
  clear M a1 a2;cases Q:blocks ws i with
  | none =>have HE:=hid (wm HS.out P.out (by rw[kqk];exact Q));rw[Kv.out Q] at Jc;obtain⟨l,hl⟩:∃l,aO ws (i:Int)=l:=⟨_,rfl⟩;rw[hl] at Jc;clear Q hl;go_enter func161,ntmps161;go_wp2_with fail;refine (aF A ws.length c w hm).mono ?_;rintro e w1 ⟨rfl,rfl⟩;rw[HI.out];go_wp2_with fail;refine Jc.out.mono ?_;rintro e w1 ⟨⟨A1,c1,rfl,-,-⟩,La⟩;go_wp2;go_ret2;exact⟨kg HE.out (by omega),La⟩
  | some l =>
   have Ka:=hid Q;have Jh:=hid (Ku.out l Q);have hlen:=Kx.out l Q;obtain⟨g1,g2⟩:=Ky.out l Q;rw[g1,g2] at Jc;have Jw:=hid (λ(A2:Option Addr) (c2:Nat) (W:World) (h:RdB W W.heap.size A2 l)=>ub A2 l c2 l.length (u:Int) W rfl (by omega) h (by omega));unfold Bu at Jw;rw[Jh.out] at Jw;clear Q g1 g2;obtain⟨i2,hi,Kc,Kq,Ji⟩:=kzt Eb;have HJ:=hid hi;have Lg:=hid Kc;have Kz:=hid Kq;have Le:=hid Ji;clear hi Kc Kq Ji;go_enter func161,ntmps161;go_wp2_with fail;refine (aF A ws.length c w hm).mono ?_;rintro e w1 ⟨rfl,rfl⟩;rw[HI.out];go_wp2_with fail;refine Jc.out.mono ?_;rintro e w2 ⟨⟨A1,c1,rfl,Ki,-⟩,Kj⟩;have Ji:=Kj.size;have Jv:=hid Ki;clear Ki;go_wp2_with fail;refine (Jw.out A1 c1 _ Jv.out).mono ?_;rintro e w3 ⟨⟨A2,c2,rfl,Kh,-⟩,Ju⟩;have U:=Kj.trans (Ju.mono Ji);have Jm:=U.size;have Kk:=hid Kh;have Ke:=hid (Jv.out.up Ju Ju.size);have Jp:=hid (HR.out.up U Jm);clear Kh Jv;obtain⟨pl,Jj⟩:∃pl,i9 l (u:Int)=pl:=⟨_,rfl⟩;rw[Jj] at Kk |-;have Jq:pl.length=l.length:=by rw[<-Jj];simp[i9,Jh.out,cI]
   have Km:=hid (λk (hk:k<l.length)=>tW Jh.out hk);rw[Jj] at Km;rw[Jq];clear Jj Jq;go_wp2_with fail;go_loopw [13,61] (λv i wr=>∃k:Nat,k<=l.length/\i=.int .i64 k/\Hid (bJ ws (l.take k) (u:Int)=true)/\wr.ownsRow w3.heap.size 275 2 v (aq (l.take k) (u:Int)).length ((aq (l.take k) (u:Int)).flatMap pg)/\Below w3.heap.size w3 wr) (λ_ i _=>l.length-(intOf i).toNat)
   case atStart=>exact⟨0,kqy _,rfl,rfl,kq3 _ _ _ _,kql _ _⟩
   obtain⟨k,hk,rfl,Kl,r,hB⟩:=hrel;have hz:=hB.size;by_cases Jl:k<l.length
   .obtain ⟨b,off,rfl,hbw,q0,q1,q2,q3,q4,q5⟩:=RdB.at_ (Ke.out.below hB) Jl;obtain⟨Kt,Kr,Lh⟩:=Km.out k Jl;obtain⟨I,j,rfl,Ko,p0⟩:=RdI.at_ (Kk.out.below hB) Kt;rw[Kr] at p0;have E:=hid (GR (ws:=ws) Jh.out Jl Kl.out);have Jn:=hid (Lf.out l Ka.out k Jl);have Jr:=hid (λh=>At HS.out P.out (l:=l) (by rw[kqk];exact Ka.out) h);have Jt:=lK (l.take k) (u:Int);rw[kq6] at Jt;obtain⟨m,Jk⟩:∃m,aq (l.take k) (u:Int)=m:=⟨_,rfl⟩;rw[Jk] at r E Jt;obtain⟨v,hv⟩:∃v,bo l[k] (aI (l.take k) (u:Int))=v:=⟨_,rfl⟩;rw[hv] at Lh p0 E;obtain⟨x,hx⟩:=xq (l[k]);rw[hx] at q0 q1 q2 q3 q4 q5 E Jn;obtain⟨z,xs,xk,xt,O,y⟩:=x;dsimp only at q0 q1 q2 q3 q4 q5 Jn;have hlm:(k:Int)<(l.length:Int):=by omega
    have hml2:m.length<=2048:=by omega
    have hv2:(v:Int)<=2048:=by omega
    have hv0:(0:Int)<=(v:Int):=by omega
    have hk0:(0:Int)<=(k:Int):=by omega
    have hwv:IntKind.u64.wrap (v:Int)=(v:Int):=kzs _ (by omega);clear hx Jk Jt hv Kr;by_cases Jb:xk=1
    .obtain ⟨t0,t8⟩:=Jn.out Jb;obtain⟨t,rfl⟩:=kq5 t0;subst Jb;have HT:=hid (λW (h:RdW W W.heap.size A ws)=>yJ A ws c ws.length t z xs 1 O y W rfl (by omega) Lb (by omega) h HO.out);have Jf:dm ws ⟨z,xs,1,(t:Int),O,y⟩=cD ws ⟨z,xs,1,(t:Int),O,y⟩:=rfl;have Jd:aK ⟨z,xs,1,(t:Int),O,y⟩=O:=rfl;rw[Jf,Jd] at E;obtain⟨q,hq⟩:∃q,cD ws ⟨z,xs,1,(t:Int),O,y⟩=q:=⟨_,rfl⟩;rw[hq] at E HT;clear hq Jf Jd Jn;cases q
     .have HE:=hid (Jr.out (E.out.1 rfl));clear E;go_wp2_with fail;obtain⟨C,H⟩:∃C,wr.alloc (.cells #[.int .i64 z,.int .i64 xs,.int .i64 1,.int .i64 (t:Int),.bool O,.int .u64 (y:Int)] 55)=C:=⟨_,rfl⟩;have N:=Bx.new wr 55 #[.int .i64 z,.int .i64 xs,.int .i64 1,.int .i64 (t:Int),.bool O,.int .u64 (y:Int)];have o:=hB.alloc hz (.cells #[.int .i64 z,.int .i64 xs,.int .i64 1,.int .i64 (t:Int),.bool O,.int .u64 (y:Int)] 55);have d:=r.alloc (.cells #[.int .i64 z,.int .i64 xs,.int .i64 1,.int .i64 (t:Int),.bool O,.int .u64 (y:Int)] 55);have G:(wr.alloc (.cells #[.int .i64 z,.int .i64 xs,.int .i64 1,.int .i64 (t:Int),.bool O,.int .u64 (y:Int)] 55)).heap.size=wr.heap.size+1:=by simp
      have B:=(kq4 wr (.cells #[.int .i64 z,.int .i64 xs,.int .i64 1,.int .i64 (t:Int),.bool O,.int .u64 (y:Int)] 55) ⟨I,j+k,none⟩ (by dsimp only;omega)).trans p0;rw[H] at N o d G B |-;clear H;have V:=hid (Jp.out.up o o.size);have F:=hid o;have L:=hid d;have BX:=hid N;obtain⟨x0,R,Y,T,x4,x5,-,g⟩:=N.c6;have Eq:I<C.heap.size:=by omega
      clear o d N r q0 q1 q2 q3 q4 q5 p0;refine kz6 (S:=λX:World=>X.cell? ⟨wr.heap.size,0,none⟩=some (.int .i64 z)/\X.cell? ⟨wr.heap.size,1,none⟩=some (.int .i64 xs)/\X.cell? ⟨wr.heap.size,2,none⟩=some (.int .i64 1)/\X.cell? ⟨wr.heap.size,3,none⟩=some (.int .i64 (t:Int))/\X.cell? ⟨wr.heap.size,4,none⟩=some (.bool O)/\X.cell? ⟨wr.heap.size,5,none⟩=some (.int .u64 (y:Int))/\X.cell? ⟨I,j+k,none⟩=some (.int .i64 (v:Int))) (by kernel_rfl) ⟨x0,R,Y,T,x4,x5,B⟩ (λD=>?_);show wpAnyH _ _ _ _ _ 18 #[false,false,false,false,false,false,false,false,false,false,false,false,false,false,false,false,false,false] _ _;refine tj 0 (.slice A ws.length c) ?_;dsimp only[Act.put,kqe,kqc,kqb,kqa,kqf,kqd];refine tj 1 (.agg #[.int .i64 z,.int .i64 xs,.int .i64 1,.int .i64 (t:Int),.bool O,.int .u64 (y:Int)]) ?_
      dsimp only[Act.put,kqe,kqc,kqb,kqa,kqf,kqd];refine kxr (rs:=[2]) (by kernel_rfl) (by simp) ?_;refine AllReadyH.cons rfl (λK hK=>?_) AllReadyH.nil;go_simp;refine (HT.out C.drew (show RdW C.drew C.drew.heap.size A ws from V.out)).mono ?_;rintro e w5 ⟨rfl,a⟩;go_simp;have J:=hid a;refine hK.out _ _ ⟨(a.cell (p:=⟨wr.heap.size,0,none⟩) g).trans x0,(a.cell (p:=⟨wr.heap.size,1,none⟩) g).trans R,(a.cell (p:=⟨wr.heap.size,2,none⟩) g).trans Y,(a.cell (p:=⟨wr.heap.size,3,none⟩) g).trans T,(a.cell (p:=⟨wr.heap.size,4,none⟩) g).trans x4,(a.cell (p:=⟨wr.heap.size,5,none⟩) g).trans x5,(a.cell (p:=⟨I,j+k,none⟩) Eq).trans B⟩ (λJa=>?_);clear hK K;refine tj 3 (.bool true) ?_;dsimp only[Act.put,kqe,kqc,kqb,kqa,kqf,kqd];refine tj 4 (.bool true) ?_;dsimp only[Act.put,kqe,kqc,kqb,kqa,kqf,kqd];refine sk 5 ?_;dsimp only[Act.put,kqe,kqc,kqb,kqa,kqf,kqd];refine sk 6 ?_;dsimp only[Act.put,kqe,kqc,kqb,kqa,kqf,kqd];refine sk 7 ?_;dsimp only[Act.put,kqe,kqc,kqb,kqa,kqf,kqd];refine sk 8 ?_;dsimp only[Act.put,kqe,kqc,kqb,kqa,kqf,kqd];refine sk 9 ?_;dsimp only[Act.put,kqe,kqc,kqb,kqa,kqf,kqd];refine sk 10 ?_;dsimp only[Act.put,kqe,kqc,kqb,kqa,kqf,kqd];refine sk 11 ?_;dsimp only[Act.put,kqe,kqc,kqb,kqa,kqf,kqd];refine sk 12 ?_;dsimp only[Act.put,kqe,kqc,kqb,kqa,kqf,kqd];refine sk 13 ?_
      dsimp only[Act.put,kqe,kqc,kqb,kqa,kqf,kqd];refine sk 14 ?_;dsimp only[Act.put,kqe,kqc,kqb,kqa,kqf,kqd];refine sk 15 ?_;dsimp only[Act.put,kqe,kqc,kqb,kqa,kqf,kqd];refine sk 16 ?_;dsimp only[Act.put,kqe,kqc,kqb,kqa,kqf,kqd];refine tj 17 (.bool true) ?_;dsimp only[Act.put,kqe,kqc,kqb,kqa,kqf,kqd];refine kx3 (by kernel_rfl) ?_ _;obtain⟨m0,m1,m2,m3,m4,m5,m6⟩:=Ja;clear D a x0 R Y T x4 x5 B;go_simp;go_wp2;go_ret2;exact⟨kg HE.out (by omega),U.trans ((F.out.trans ((kql _ _).drew.trans (J.out.mono F.out.size))).mono Jm)⟩
     cases O
     .have HY:=hid (E.out.2.2.2 rfl rfl);clear E;go_wp2_with fail;obtain⟨C,H⟩:∃C,wr.alloc (.cells #[.int .i64 z,.int .i64 xs,.int .i64 1,.int .i64 (t:Int),.bool false,.int .u64 (y:Int)] 55)=C:=⟨_,rfl⟩;have N:=Bx.new wr 55 #[.int .i64 z,.int .i64 xs,.int .i64 1,.int .i64 (t:Int),.bool false,.int .u64 (y:Int)];have o:=hB.alloc hz (.cells #[.int .i64 z,.int .i64 xs,.int .i64 1,.int .i64 (t:Int),.bool false,.int .u64 (y:Int)] 55);have d:=r.alloc (.cells #[.int .i64 z,.int .i64 xs,.int .i64 1,.int .i64 (t:Int),.bool false,.int .u64 (y:Int)] 55);have G:(wr.alloc (.cells #[.int .i64 z,.int .i64 xs,.int .i64 1,.int .i64 (t:Int),.bool false,.int .u64 (y:Int)] 55)).heap.size=wr.heap.size+1:=by simp
      have B:=(kq4 wr (.cells #[.int .i64 z,.int .i64 xs,.int .i64 1,.int .i64 (t:Int),.bool false,.int .u64 (y:Int)] 55) ⟨I,j+k,none⟩ (by dsimp only;omega)).trans p0;rw[H] at N o d G B |-;clear H;have V:=hid (Jp.out.up o o.size);have F:=hid o;have L:=hid d;have BX:=hid N;obtain⟨x0,R,Y,T,x4,x5,-,g⟩:=N.c6;have Eq:I<C.heap.size:=by omega
      clear o d N r q0 q1 q2 q3 q4 q5 p0;refine kz6 (S:=λX:World=>X.cell? ⟨wr.heap.size,0,none⟩=some (.int .i64 z)/\X.cell? ⟨wr.heap.size,1,none⟩=some (.int .i64 xs)/\X.cell? ⟨wr.heap.size,2,none⟩=some (.int .i64 1)/\X.cell? ⟨wr.heap.size,3,none⟩=some (.int .i64 (t:Int))/\X.cell? ⟨wr.heap.size,4,none⟩=some (.bool false)/\X.cell? ⟨wr.heap.size,5,none⟩=some (.int .u64 (y:Int))/\X.cell? ⟨I,j+k,none⟩=some (.int .i64 (v:Int))) (by kernel_rfl) ⟨x0,R,Y,T,x4,x5,B⟩ (λD=>?_);show wpAnyH _ _ _ _ _ 18 #[false,false,false,false,false,false,false,false,false,false,false,false,false,false,false,false,false,false] _ _;refine tj 0 (.slice A ws.length c) ?_;dsimp only[Act.put,kqe,kqc,kqb,kqa,kqf,kqd];refine tj 1 (.agg #[.int .i64 z,.int .i64 xs,.int .i64 1,.int .i64 (t:Int),.bool false,.int .u64 (y:Int)]) ?_
      dsimp only[Act.put,kqe,kqc,kqb,kqa,kqf,kqd];refine kxr (rs:=[2]) (by kernel_rfl) (by simp) ?_;refine AllReadyH.cons rfl (λK hK=>?_) AllReadyH.nil;go_simp;refine (HT.out C.drew (show RdW C.drew C.drew.heap.size A ws from V.out)).mono ?_;rintro e w5 ⟨rfl,a⟩;go_simp;have J:=hid a;refine hK.out _ _ ⟨(a.cell (p:=⟨wr.heap.size,0,none⟩) g).trans x0,(a.cell (p:=⟨wr.heap.size,1,none⟩) g).trans R,(a.cell (p:=⟨wr.heap.size,2,none⟩) g).trans Y,(a.cell (p:=⟨wr.heap.size,3,none⟩) g).trans T,(a.cell (p:=⟨wr.heap.size,4,none⟩) g).trans x4,(a.cell (p:=⟨wr.heap.size,5,none⟩) g).trans x5,(a.cell (p:=⟨I,j+k,none⟩) Eq).trans B⟩ (λJa=>?_);clear hK K;refine tj 3 (.bool false) ?_;dsimp only[Act.put,kqe,kqc,kqb,kqa,kqf,kqd];refine tj 4 (.bool false) ?_;dsimp only[Act.put,kqe,kqc,kqb,kqa,kqf,kqd];refine tj 5 (.pointer (some ⟨wr.heap.size,4,none⟩)) ?_;dsimp only[Act.put,kqe,kqc,kqb,kqa,kqf,kqd];refine tj 6 (.bool false) ?_;dsimp only[Act.put,kqe,kqc,kqb,kqa,kqf,kqd];refine tj 7 (.bool false) ?_;dsimp only[Act.put,kqe,kqc,kqb,kqa,kqf,kqd];refine sk 8 ?_;dsimp only[Act.put,kqe,kqc,kqb,kqa,kqf,kqd];refine sk 9 ?_;dsimp only[Act.put,kqe,kqc,kqb,kqa,kqf,kqd];refine sk 10 ?_;dsimp only[Act.put,kqe,kqc,kqb,kqa,kqf,kqd];refine sk 11 ?_;dsimp only[Act.put,kqe,kqc,kqb,kqa,kqf,kqd]
      refine sk 12 ?_;dsimp only[Act.put,kqe,kqc,kqb,kqa,kqf,kqd];refine sk 13 ?_;dsimp only[Act.put,kqe,kqc,kqb,kqa,kqf,kqd];refine sk 14 ?_;dsimp only[Act.put,kqe,kqc,kqb,kqa,kqf,kqd];refine sk 15 ?_;dsimp only[Act.put,kqe,kqc,kqb,kqa,kqf,kqd];refine tj 16 (.bool false) ?_;dsimp only[Act.put,kqe,kqc,kqb,kqa,kqf,kqd];refine tj 17 (.bool false) ?_;dsimp only[Act.put,kqe,kqc,kqb,kqa,kqf,kqd];refine kx3 (by kernel_rfl) ?_ _;obtain⟨m0,m1,m2,m3,m4,m5,m6⟩:=Ja;clear D a x0 R Y T x4 x5 B;go_simp;go_wp2;go_roundw
      case rel=>exact⟨k+1,by omega,by go_num,HY.out.1,by rw[HY.out.2];exact aj (show (C.drew).ownsRow _ _ _ _ _ _ from L.out) J.out (kqg _),F.out.trans ((kql _ _).drew.trans (J.out.mono F.out.size))⟩
      case measure=>simp[intOf];omega
     by_cases Jo:y=v
     .have Ks:((y:Int) != (v:Int))=false:=by rw[kqq];omega
      have Kw:=hid (pL r);have HY:=hid (E.out.2.2.1 rfl rfl Jo);clear E Jo;go_wp2_with fail;obtain⟨C,H⟩:∃C,wr.alloc (.cells #[.int .i64 z,.int .i64 xs,.int .i64 1,.int .i64 (t:Int),.bool true,.int .u64 (y:Int)] 55)=C:=⟨_,rfl⟩;have N:=Bx.new wr 55 #[.int .i64 z,.int .i64 xs,.int .i64 1,.int .i64 (t:Int),.bool true,.int .u64 (y:Int)];have o:=hB.alloc hz (.cells #[.int .i64 z,.int .i64 xs,.int .i64 1,.int .i64 (t:Int),.bool true,.int .u64 (y:Int)] 55);have d:=r.alloc (.cells #[.int .i64 z,.int .i64 xs,.int .i64 1,.int .i64 (t:Int),.bool true,.int .u64 (y:Int)] 55);have G:(wr.alloc (.cells #[.int .i64 z,.int .i64 xs,.int .i64 1,.int .i64 (t:Int),.bool true,.int .u64 (y:Int)] 55)).heap.size=wr.heap.size+1:=by simp
      have B:=(kq4 wr (.cells #[.int .i64 z,.int .i64 xs,.int .i64 1,.int .i64 (t:Int),.bool true,.int .u64 (y:Int)] 55) ⟨I,j+k,none⟩ (by dsimp only;omega)).trans p0;rw[H] at N o d G B |-;clear H;have V:=hid (Jp.out.up o o.size);have F:=hid o;have L:=hid d;have BX:=hid N;obtain⟨x0,R,Y,T,x4,x5,-,g⟩:=N.c6;have Eq:I<C.heap.size:=by omega
      clear o d N r q0 q1 q2 q3 q4 q5 p0;refine kz6 (S:=λX:World=>X.cell? ⟨wr.heap.size,0,none⟩=some (.int .i64 z)/\X.cell? ⟨wr.heap.size,1,none⟩=some (.int .i64 xs)/\X.cell? ⟨wr.heap.size,2,none⟩=some (.int .i64 1)/\X.cell? ⟨wr.heap.size,3,none⟩=some (.int .i64 (t:Int))/\X.cell? ⟨wr.heap.size,4,none⟩=some (.bool true)/\X.cell? ⟨wr.heap.size,5,none⟩=some (.int .u64 (y:Int))/\X.cell? ⟨I,j+k,none⟩=some (.int .i64 (v:Int))) (by kernel_rfl) ⟨x0,R,Y,T,x4,x5,B⟩ (λD=>?_);show wpAnyH _ _ _ _ _ 18 #[false,false,false,false,false,false,false,false,false,false,false,false,false,false,false,false,false,false] _ _;refine tj 0 (.slice A ws.length c) ?_;dsimp only[Act.put,kqe,kqc,kqb,kqa,kqf,kqd];refine tj 1 (.agg #[.int .i64 z,.int .i64 xs,.int .i64 1,.int .i64 (t:Int),.bool true,.int .u64 (y:Int)]) ?_
      dsimp only[Act.put,kqe,kqc,kqb,kqa,kqf,kqd];refine kxr (rs:=[2]) (by kernel_rfl) (by simp) ?_;refine AllReadyH.cons rfl (λK hK=>?_) AllReadyH.nil;go_simp;refine (HT.out C.drew (show RdW C.drew C.drew.heap.size A ws from V.out)).mono ?_;rintro e w5 ⟨rfl,a⟩;go_simp;have J:=hid a;refine hK.out _ _ ⟨(a.cell (p:=⟨wr.heap.size,0,none⟩) g).trans x0,(a.cell (p:=⟨wr.heap.size,1,none⟩) g).trans R,(a.cell (p:=⟨wr.heap.size,2,none⟩) g).trans Y,(a.cell (p:=⟨wr.heap.size,3,none⟩) g).trans T,(a.cell (p:=⟨wr.heap.size,4,none⟩) g).trans x4,(a.cell (p:=⟨wr.heap.size,5,none⟩) g).trans x5,(a.cell (p:=⟨I,j+k,none⟩) Eq).trans B⟩ (λJa=>?_);clear hK K;refine tj 3 (.bool false) ?_;dsimp only[Act.put,kqe,kqc,kqb,kqa,kqf,kqd];refine tj 4 (.bool false) ?_;dsimp only[Act.put,kqe,kqc,kqb,kqa,kqf,kqd];refine tj 5 (.pointer (some ⟨wr.heap.size,4,none⟩)) ?_;dsimp only[Act.put,kqe,kqc,kqb,kqa,kqf,kqd];refine tj 6 (.bool true) ?_;dsimp only[Act.put,kqe,kqc,kqb,kqa,kqf,kqd];refine tj 7 (.bool true) ?_;dsimp only[Act.put,kqe,kqc,kqb,kqa,kqf,kqd];refine tj 8 (.pointer (some ⟨wr.heap.size,5,none⟩)) ?_;dsimp only[Act.put,kqe,kqc,kqb,kqa,kqf,kqd];refine tj 9 (.int .u64 (y:Int)) ?_;dsimp only[Act.put,kqe,kqc,kqb,kqa,kqf,kqd];refine tj 10 (.slice (some ⟨I,j,none⟩) l.length c2) ?_;dsimp only[Act.put,kqe,kqc,kqb,kqa,kqf,kqd];refine tj 11 (.int .i64 (k:Int)) ?_
      dsimp only[Act.put,kqe,kqc,kqb,kqa,kqf,kqd];refine tj 12 (.pointer (some ⟨I,j+k,none⟩)) ?_;dsimp only[Act.put,kqe,kqc,kqb,kqa,kqf,kqd];refine tj 13 (.int .i64 (v:Int)) ?_;dsimp only[Act.put,kqe,kqc,kqb,kqa,kqf,kqd];refine tj 14 (.int .u64 (v:Int)) ?_;dsimp only[Act.put,kqe,kqc,kqb,kqa,kqf,kqd];refine tj 15 (.bool false) ?_;dsimp only[Act.put,kqe,kqc,kqb,kqa,kqf,kqd];refine tj 16 (.bool false) ?_;dsimp only[Act.put,kqe,kqc,kqb,kqa,kqf,kqd];refine tj 17 (.bool false) ?_;dsimp only[Act.put,kqe,kqc,kqb,kqa,kqf,kqd];refine kx3 (by kernel_rfl) ?_ _;obtain⟨m0,m1,m2,m3,m4,m5,m6⟩:=Ja;clear D a x0 R Y T x4 x5 B;go_simp;go_wp2_with fail;have Jg:=F.out.trans ((kql _ _).drew.trans (J.out.mono F.out.size));have Je:=aj (show (C.drew).ownsRow _ _ _ _ _ _ from L.out) J.out (kqg _);have Ld:=Jg.size;have Kd:=aY L.out Ko;have Kn:some wr.heap.size≠Value.ownBlock u13:=Kw.out;have hg5:wr.heap.size<w5.heap.size:=by have:=J.out.size;have:C.drew.heap.size=C.heap.size:=rfl;omega
      have hp5:I<w5.heap.size:=by omega
      have Lc:m.length+1<=maxLen:=by unfold maxLen;omega
      have Jk:(m.length+1)*16<=140737488355328:=by omega
      have Kg:=hid Jg;clear Jg m1 m2 m3 m4 m5
      first
       | (go_region_held3 (λX:World=>X.cell? ⟨wr.heap.size,0,none⟩=some (.int .i64 z)/\X.cell? ⟨I,j+k,none⟩=some (.int .i64 (v:Int)))
        (first | go_keep | (
         go_split_ands
         refine⟨?_,?_⟩
         . (rw[Z.cell_far _ (by simp;omega) Kn];assumption)
         (rw[Z.cell_far _ (by simp;omega) Kd];assumption)))
        ((refine step_append_lies _ (by rfl) _ _ _ (by rfl) w3.heap.size 275 i2 _ 2 16 underlying223 HJ.out Lg.out Kz.out Le.out rfl (by omega) u13 m.length (m.flatMap pg) (by rfl) ((show (w5.drew).ownsRow _ _ _ _ _ _ from Je).alloc _) ⟨w5.heap.size,0,none⟩ 1 1 [.int .i64 z,.int .i64 (v:Int)] (by rfl) (by rfl) (World.news_of_block (cs:=#[.int .i64 z,.int .i64 (v:Int)]) (t:=275) (fr:=(0,0)) (heap_alloc_new w5.drew _)) (by simp[Value.oneCell']) (by omega) Lc Jk (by simp;omega) (w5.heap.size+1) (by simp) ?_;intro gg cap w6 Jz Z hat hlt6)))
       | fail
      go_wp2;go_roundw
      case rel=>exact⟨k+1,by omega,by go_num,HY.out.1,by rw[HY.out.2,kqw,bP];exact Jz,aw (w:=w3) (wr:=w5.drew) (Kg.out.trans (kql _ _).drew) Ld (show (w5.drew).ownsRow _ _ _ _ _ _ from Je) Z⟩
      case measure=>simp[intOf];omega
     have Ks:((y:Int) != (v:Int))=true:=by rw[kqt];omega
     have HE:=hid (Jr.out (E.out.2.1 rfl rfl Jo));clear E Jo;go_wp2_with fail;obtain⟨C,H⟩:∃C,wr.alloc (.cells #[.int .i64 z,.int .i64 xs,.int .i64 1,.int .i64 (t:Int),.bool true,.int .u64 (y:Int)] 55)=C:=⟨_,rfl⟩;have N:=Bx.new wr 55 #[.int .i64 z,.int .i64 xs,.int .i64 1,.int .i64 (t:Int),.bool true,.int .u64 (y:Int)];have o:=hB.alloc hz (.cells #[.int .i64 z,.int .i64 xs,.int .i64 1,.int .i64 (t:Int),.bool true,.int .u64 (y:Int)] 55);have d:=r.alloc (.cells #[.int .i64 z,.int .i64 xs,.int .i64 1,.int .i64 (t:Int),.bool true,.int .u64 (y:Int)] 55);have G:(wr.alloc (.cells #[.int .i64 z,.int .i64 xs,.int .i64 1,.int .i64 (t:Int),.bool true,.int .u64 (y:Int)] 55)).heap.size=wr.heap.size+1:=by simp
     have B:=(kq4 wr (.cells #[.int .i64 z,.int .i64 xs,.int .i64 1,.int .i64 (t:Int),.bool true,.int .u64 (y:Int)] 55) ⟨I,j+k,none⟩ (by dsimp only;omega)).trans p0;rw[H] at N o d G B |-;clear H;have V:=hid (Jp.out.up o o.size);have F:=hid o;have L:=hid d;have BX:=hid N;obtain⟨x0,R,Y,T,x4,x5,-,g⟩:=N.c6;have Eq:I<C.heap.size:=by omega
     clear o d N r q0 q1 q2 q3 q4 q5 p0;refine kz6 (S:=λX:World=>X.cell? ⟨wr.heap.size,0,none⟩=some (.int .i64 z)/\X.cell? ⟨wr.heap.size,1,none⟩=some (.int .i64 xs)/\X.cell? ⟨wr.heap.size,2,none⟩=some (.int .i64 1)/\X.cell? ⟨wr.heap.size,3,none⟩=some (.int .i64 (t:Int))/\X.cell? ⟨wr.heap.size,4,none⟩=some (.bool true)/\X.cell? ⟨wr.heap.size,5,none⟩=some (.int .u64 (y:Int))/\X.cell? ⟨I,j+k,none⟩=some (.int .i64 (v:Int))) (by kernel_rfl) ⟨x0,R,Y,T,x4,x5,B⟩ (λD=>?_);show wpAnyH _ _ _ _ _ 18 #[false,false,false,false,false,false,false,false,false,false,false,false,false,false,false,false,false,false] _ _;refine tj 0 (.slice A ws.length c) ?_;dsimp only[Act.put,kqe,kqc,kqb,kqa,kqf,kqd];refine tj 1 (.agg #[.int .i64 z,.int .i64 xs,.int .i64 1,.int .i64 (t:Int),.bool true,.int .u64 (y:Int)]) ?_
     dsimp only[Act.put,kqe,kqc,kqb,kqa,kqf,kqd];refine kxr (rs:=[2]) (by kernel_rfl) (by simp) ?_;refine AllReadyH.cons rfl (λK hK=>?_) AllReadyH.nil;go_simp;refine (HT.out C.drew (show RdW C.drew C.drew.heap.size A ws from V.out)).mono ?_;rintro e w5 ⟨rfl,a⟩;go_simp;have J:=hid a;refine hK.out _ _ ⟨(a.cell (p:=⟨wr.heap.size,0,none⟩) g).trans x0,(a.cell (p:=⟨wr.heap.size,1,none⟩) g).trans R,(a.cell (p:=⟨wr.heap.size,2,none⟩) g).trans Y,(a.cell (p:=⟨wr.heap.size,3,none⟩) g).trans T,(a.cell (p:=⟨wr.heap.size,4,none⟩) g).trans x4,(a.cell (p:=⟨wr.heap.size,5,none⟩) g).trans x5,(a.cell (p:=⟨I,j+k,none⟩) Eq).trans B⟩ (λJa=>?_);clear hK K;refine tj 3 (.bool false) ?_;dsimp only[Act.put,kqe,kqc,kqb,kqa,kqf,kqd];refine tj 4 (.bool false) ?_;dsimp only[Act.put,kqe,kqc,kqb,kqa,kqf,kqd];refine tj 5 (.pointer (some ⟨wr.heap.size,4,none⟩)) ?_;dsimp only[Act.put,kqe,kqc,kqb,kqa,kqf,kqd];refine tj 6 (.bool true) ?_;dsimp only[Act.put,kqe,kqc,kqb,kqa,kqf,kqd];refine tj 7 (.bool true) ?_;dsimp only[Act.put,kqe,kqc,kqb,kqa,kqf,kqd];refine tj 8 (.pointer (some ⟨wr.heap.size,5,none⟩)) ?_;dsimp only[Act.put,kqe,kqc,kqb,kqa,kqf,kqd];refine tj 9 (.int .u64 (y:Int)) ?_;dsimp only[Act.put,kqe,kqc,kqb,kqa,kqf,kqd];refine tj 10 (.slice (some ⟨I,j,none⟩) l.length c2) ?_;dsimp only[Act.put,kqe,kqc,kqb,kqa,kqf,kqd];refine tj 11 (.int .i64 (k:Int)) ?_
     dsimp only[Act.put,kqe,kqc,kqb,kqa,kqf,kqd];refine tj 12 (.pointer (some ⟨I,j+k,none⟩)) ?_;dsimp only[Act.put,kqe,kqc,kqb,kqa,kqf,kqd];refine tj 13 (.int .i64 (v:Int)) ?_;dsimp only[Act.put,kqe,kqc,kqb,kqa,kqf,kqd];refine tj 14 (.int .u64 (v:Int)) ?_;dsimp only[Act.put,kqe,kqc,kqb,kqa,kqf,kqd];refine tj 15 (.bool true) ?_;dsimp only[Act.put,kqe,kqc,kqb,kqa,kqf,kqd];refine tj 16 (.bool true) ?_;dsimp only[Act.put,kqe,kqc,kqb,kqa,kqf,kqd];refine tj 17 (.bool true) ?_;dsimp only[Act.put,kqe,kqc,kqb,kqa,kqf,kqd];refine kx3 (by kernel_rfl) ?_ _;obtain⟨m0,m1,m2,m3,m4,m5,m6⟩:=Ja;clear D a x0 R Y T x4 x5 B;go_simp;go_wp2;go_ret2;exact⟨kg HE.out (by omega),U.trans ((F.out.trans ((kql _ _).drew.trans (J.out.mono F.out.size))).mono Jm)⟩
    have hk2:(xk != 1)=true:=by rw[kqt];exact Jb
    have Jf:dm ws ⟨z,xs,xk,xt,O,y⟩=true:=dC Jb;have Jd:aK ⟨z,xs,xk,xt,O,y⟩=false:=by unfold aK;show (xk==1&&O)=false;rw[show (xk==1)=false by rw[kqi];exact Jb];rfl
    have HY:=hid (E.out.2.2.2 Jf Jd);clear Jb Jf Jd E;go_wp2;go_roundw
    case rel=>exact⟨k+1,by omega,by go_num,HY.out.1,by rw[HY.out.2];exact r.alloc _,hB.alloc hz _⟩
    case measure=>simp[intOf];omega
   have HP:=hid (DW HS.out P.out (l:=l) (by rw[kqk];exact Ka.out) (by have:=Kl.out;rwa [kzg (by omega)] at this));rw[kzg (by omega)] at r;obtain⟨A4,c4,rfl,Kf,Js⟩:=jh r;have Kp:=hid Js;have Kb:=hid Kf;clear Js r Kf;go_wp2;go_ret2;exact⟨⟨A4,c4,by rw[HP.out.1,HP.out.2];rfl,by rw[HP.out.2];exact Kp.out,by rw[HP.out.2];exact Kb.out⟩,U.trans (hB.mono Jm)⟩
 have HE:=hid (Av HS.out M);have Jy:=GJ M;clear M;rcases Jy with⟨g1,g2⟩|⟨⟨g1,g2⟩,⟨g3,g4⟩|⟨⟨g3,g4⟩,g5|⟨g5,g6⟩|⟨⟨g5,g6⟩,g7⟩⟩⟩
 all_goals
  go_enter func161,ntmps161;go_wp2_with fail;refine (aF A ws.length c w hm).mono ?_;rintro e w1 ⟨rfl,rfl⟩;rw[HI.out];go_wp2_with fail
  all_goals
   go_ret2;exact⟨kg HE.out (by omega),kql _ _⟩
theorem rg{a b:List α}(ha:k<a.length)(hb:k<b.length)(h:a.take k=b.take k)(h1:a[k]=b[k]):a.take (k+1)=b.take (k+1):=by rw[kqp ha,kqp hb,h,h1]
theorem tP[DecidableEq α]{a b:List α}(hl:a.length=b.length)(h:a.take a.length=b.take a.length):decide (a=b)=true:=by rw[kz2,kzg (by omega)] at h;rw[kqo];exact h
theorem zw[DecidableEq α]{a b:List α}(ha:k<a.length)(hb:k<b.length)(h1:a[k]≠b[k]):decide (a=b)=false:=by rw[kqh];rintro rfl;exact h1 rfl
theorem uR[DecidableEq α]{a b:List α}(h:a.length≠b.length):decide (a=b)=false:=by rw[kqh];rintro rfl;exact h rfl
def CY (w:World) (xs:List Nat) (e:Ending) (w':World):Prop:=∃g c,e=.returned (.slice (some ⟨g,0,none⟩) xs.length c)/\w'.ownsRow w.heap.size 53 1 (.slice (some ⟨g,0,none⟩) xs.length c) xs.length (xs.flatMap ai)/\Below w.heap.size w w'
theorem me:(prog.info? 53).map (λi=>(i.zero,i.size,i.bytes))=some (some (.int .u64 0),1,8):=by kernel_rfl
theorem jV(ws:List Nat)(a v:Nat):(ws.set a v).flatMap ai=(ws.flatMap ai).set a (.int .u64 (v:Int)):=by
 have:=eh ai 1 aZ ws a 0 (by omega) v (.int .u64 (v:Int)) (λy _=>rfl)
 simpa using this
theorem iS(ws:List Nat):(ws.flatMap ai).length=ws.length:=by rw[bE ai 1 aZ];omega
theorem mu(ws:List Nat)(k:Nat)(h:k<ws.length):(ws.flatMap ai)[k]? = some (.int .u64 (ws[k]:Int)):=by
 have:=ig ai 1 aZ ws k 0 h (by omega)
 simpa [ai] using this
theorem kA{v:Value}(h:w.ownsRow H e sz v n xs)(hn:0<n):∃g c,v=.slice (some ⟨g,0,none⟩) n c:=by obtain⟨g,c,a,_⟩:=h.form hn;exact⟨g,c,a⟩
theorem lX{g c:Nat}(h:w.ownsRow H e sz (.slice (some ⟨g,0,none⟩) n c) n xs):H<=g:=by
 rcases h.2 with⟨a,_⟩|⟨g',cap',cur,a,hb,_⟩
 .simp at a
 simp only[Value.slice.injEq,Option.some.injEq,Addr.mk.injEq,and_true,true_and] at a;omega
theorem Fz(h:a9 ws f s≠0):(iE ws f s).length=0:=by simp[iE,h]
theorem Eo(ws:List Nat)(f s:Int):(iE ws f s).length<=2048:=by
 by_cases h:a9 ws f s=0
 .obtain ⟨a,b,l,d,h4,c⟩:=bT h;rw[c];have hb:=ma a;have ha:=fY b;have h6:=(bq (by omega) _ _ d (by omega) (by omega) (by omega)).1;have h7:=lK l s;omega
 rw[Fz h];omega
def Cr (l:List (Int × Int)) (a:Int) (k:Nat):Prop:=ed l a=ed (l.drop k) a
theorem zD{l:List (Int × Int)}(hk:k<l.length)(h:Cr l a k)(h1:l[k].1≠a):Cr l a (k+1):=by unfold Cr at h |-;rw[h,kjh hk];simp[ed,h1]
theorem GG{l:List (Int × Int)}(hk:k<l.length)(h:Cr l a k)(h1:l[k].1=a):ed l a=some l[k].2:=by unfold Cr at h;rw[h,kjh hk];simp[ed,h1]
theorem CE{l:List (Int × Int)}(h:Cr l a l.length):ed l a=none:=by unfold Cr at h;rw[h,kvc];rfl
theorem fwTo_c(A:Option Addr)(l:List (Int × Int))(c n H:Nat)(a:Int)(w:World)(hn:l.length=n)(hm:n<=1000000)(hr:RdM w H A l)(hH:H<=w.heap.size):
 Calls prog 284 #[.slice A n c,.int .i64 a] w λe w'=>e=.returned (.tuple #[.int .i64 ((ed l a).getD 0),.bool (ed l a).isSome])/\Below w.heap.size w w':=by
 subst hn;have F:=hid (hr.more hH);have t:Hid (∀k (h:k<l.length),Cr l a k->l[k].1=a->ed l a=some l[k].2):=hid λk h D E=>GG h D E;have s:Hid (Cr l a l.length->ed l a=none):=hid CE;obtain⟨q,z⟩:=xq (ed l a);rw[z] at t s |-;clear hr hH z;go_enter func284,ntmps284;go_wp2_with fail;go_loopw [10] (λi wr=>∃k:Nat,k<=l.length/\i=.int .i64 k/\Hid (Cr l a k)/\Below w.heap.size w wr) (λi _=>l.length-(intOf i).toNat)
 case atStart=>exact⟨0,kqy _,rfl,rfl,kql _ _⟩
 obtain⟨k,hk,rfl,p,j⟩:=hrel;have B:=j.size;by_cases f:k<l.length
 .obtain ⟨b,off,rfl,hb,y,v⟩:=RdM.at_ (Rd.below F.out j) f;have o:=hid (λh=>zD f p.out h);have g:=hid (λh=>t.out k f p.out h);obtain⟨x,u⟩:=xq (l[k]);rw[u] at y v o g;obtain⟨r,x2⟩:=x;dsimp only at y v o g;have hk1:(k:Int)<(l.length:Int):=by omega
  clear u;by_cases d:r=a
  .have C:(r==a)=true:=by rw[kqx];exact d
   have m:=hid (g.out d);clear d;go_wp2;go_ret2;exact⟨by rw[m.out];rfl,j.alloc B _⟩
  have C:(r==a)=false:=by rw[kqi];exact d
  have m:=hid (o.out d);clear d;go_wp2;go_roundw
  case rel=>exact⟨k+1,by omega,by go_num,m.out,j.alloc B _⟩
  case measure=>simp[intOf];omega
 have m:=hid (s.out (by have:=p.out;rwa [show k=l.length by omega] at this));go_wp2;go_ret2;exact⟨by rw[m.out];rfl,j⟩
theorem Ab{E:List En}(hk:k<E.length):ak ws (E.take (k+1))=if 0<=E[k].a/\E[k].a<(ws.length:Int) then (ak ws (E.take k)).set E[k].a.toNat E[k].v else ak ws (E.take k):=by rw[kqp hk,dR];simp only[ak,aD]
theorem pj(E:List En):∀(ws:List Nat),(∀x∈ws,x<18446744073709551616)->(∀e∈E,e.v<18446744073709551616)->∀x∈ak ws E,x<18446744073709551616:=by
 induction E with
 | nil=>intro ws h _;exact h
 | cons e E ih =>
  intro ws h b;simp only[ak];refine ih _ ?_ (λx a=>b x (by simp[a]));split
  .intro x a;rcases List.mem_or_eq_of_mem_set a with c|c
   .exact h x c
   have:=b e (by simp);omega
  exact h
def ge (x:Nat) (m:Bool):Bk:={ ah x with mark:=m }
def fJ (x:Nat) (m:Bool):Nat:=if az x=true then iX (ge x m) else 0
def nT (x:Nat) (m:Bool):Int:=if az x=true then iG (ge x m) else 50
theorem oJ(x:Nat)(m:Bool)(w:World)(hx:x<18446744073709551616):Calls prog 205 #[.int .u64 (x:Int),.bool m] w λe w'=>e=.returned (.tuple #[.int .u64 (fJ x m:Nat),.int .i64 (nT x m)])/\Below w.heap.size w w':=by
 have a:=hid (mU x w hx);have c:(ah x).val=.agg #[.int .i64 0,.int .i64 ((x/65536%65536:Nat):Int),.int .i64 ((x%256:Nat):Int),.int .i64 ((x/512%128:Nat):Int),.bool (x/256%2==1),.int .u64 0]:=rfl;have b:(ge x m).val=.agg #[.int .i64 0,.int .i64 ((x/65536%65536:Nat):Int),.int .i64 ((x%256:Nat):Int),.int .i64 ((x/512%128:Nat):Int),.bool m,.int .u64 0]:=rfl;cases f:az x
 .have g:=hid (show fJ x m=0/\nT x m=50 by simp[fJ,nT,f]);rw[(ly f).1,(ly f).2] at a;unfold lN Bk.val at a;dsimp only at a;clear f c b hx;go_enter func205,ntmps205;go_wp2_with fail;refine a.out.mono ?_;rintro e s ⟨rfl,d⟩;go_wp2;go_ret2;exact⟨by rw[g.out.1,g.out.2];rfl,d.alloc d.size _⟩
 have g:=hid (show fJ x m=iX (ge x m)/\nT x m=iG (ge x m) by simp[fJ,nT,f]);have p:=hid (λW=>pZ (ge x m) W);rw[(lB f).1,(lB f).2,c] at a;rw[b] at p;obtain⟨S,k⟩:∃S,((x/65536%65536:Nat):Int)=S:=⟨_,rfl⟩;obtain⟨K,j⟩:∃K,((x%256:Nat):Int)=K:=⟨_,rfl⟩;obtain⟨T,i⟩:∃T,((x/512%128:Nat):Int)=T:=⟨_,rfl⟩;obtain⟨M,r⟩:=xq ((x/256%2==1));obtain⟨V,q⟩:=xq (iX (ge x m));obtain⟨R,l⟩:=xq (iG (ge x m));rw[k,j,i,r] at a;rw[k,j,i,q,l] at p;rw[q,l] at g;clear f c b hx k j i r q l;go_enter func205,ntmps205;go_wp2_with fail;refine a.out.mono ?_;rintro e s ⟨rfl,d⟩;have n:=d.size;go_wp2_with fail;refine (p.out _).mono ?_;rintro e w2 ⟨rfl,o⟩;have h:=(d.alloc n (.cells #[.int .i64 0,.int .i64 S,.int .i64 K,.int .i64 T,.bool m,.int .u64 0] 55)).trans (o.mono (by simp;omega));go_wp2;go_ret2;exact⟨by rw[g.out.1,g.out.2];rfl,h⟩
end Go.Proofs.YtpcajamacpbjcaaGreat
