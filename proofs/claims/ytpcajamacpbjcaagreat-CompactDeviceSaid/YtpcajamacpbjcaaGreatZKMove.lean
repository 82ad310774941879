/- Texts laid together: Fwr SameP Same2 To Put HdM. -/
import Derived.Test.YtpcajamacpbjcaaGreatZKHeap
import Derived.Test.YtpcajamacpbjcaaGreatZKHead
import Derived.Laws.OwnMore
set_option maxHeartbeats 16000000
set_option maxRecDepth 100000
set_option linter.all false
namespace Go.Proofs.YtpcajamacpbjcaaGreat
open Lib (hid)
open Go.RowKit
variable {a f s:Int}{l:List Bk}{ws:List Nat}{xs:List Value}{H k n sz:Nat}{α:Type}{e:TypeId}{w:World}
open Go.Proofs.Tryz
def qo (m:Int × Int):List Value:=[.int .i64 m.1,.int .i64 m.2]
theorem t6(m:Int × Int):(qo m).length=2:=rfl
def RdM (w:World) (B:Nat) (A:Option Addr) (l:List (Int × Int)):Prop:=Rd w B A (l.flatMap qo)
theorem RdM.at_{B:Nat}{A:Option Addr}{l:List (Int × Int)}(h:RdM w B A l)(hk:k<l.length):
 ∃b a,A=some ⟨b,a,none⟩/\b<B/\w.cell? ⟨b,a+k*2,none⟩=some (.int .i64 l[k].1)/\w.cell? ⟨b,a+k*2+1,none⟩=some (.int .i64 l[k].2):=by obtain⟨b,a,e,d,c⟩:=Rd.at_flat t6 h (by omega) hk;exact⟨b,a,e,d,c 0 (by omega),c 1 (by omega)⟩
theorem F1:(prog.info? 275).map (λi=>(i.zero,i.size,i.bytes))=some (some (.agg #[.int .i64 0,.int .i64 0]),2,16):=by kernel_rfl
def yH (ws:List Nat) (f s:Int) (e:Ending) (w':World):Prop:=∃A c,e=.returned (.tuple #[.slice A (iB ws f s).length c,.int .i64 (bh ws f s)])/\RdM w' w'.heap.size A (iB ws f s)/\(iB ws f s).length<=c
theorem lm{r:Int}{w':World}(hr:bh ws f s=r)(h0:r≠0):yH ws f s (.returned (.tuple #[.slice none 0 0,.int .i64 r])) w':=by
 subst hr;have:iB ws f s=[]:=by simp[iB,h0]
 exact⟨none,0,by rw[this];rfl,by rw[this];exact Rd.nil_,by rw[this];simp⟩
theorem Ij(h:fU n f s=true):
 ((f%2 != 0)=true/\(f.tmod 2 != 0)=true) \/
 ((
  f%2 != 0)=false/\(f.tmod 2 != 0)=false)/\(((s%2 != 0)=true/\(s.tmod 2 != 0)=true) \/
  ((s%2 != 0)=false/\(s.tmod 2 != 0)=false)/\(s<128\/128<=s/\f<s\/(128<=s/\s<=f)/\(n:Int)<f)):=by
 rw[lg] at h;rw[qX,qX];by_cases d:f%2=0
 .have a:(f%2 != 0)=false:=by rw[kqr];exact d
  rw[a];refine .inr ⟨⟨rfl,rfl⟩,?_⟩;by_cases c:s%2=0
  .have b:(s%2 != 0)=false:=by rw[kqr];exact c
   rw[b];refine .inr ⟨⟨rfl,rfl⟩,?_⟩;omega
  have b:(s%2 != 0)=true:=by rw[kqv];exact c
  rw[b];exact .inl ⟨rfl,rfl⟩
 have a:(f%2 != 0)=true:=by rw[kqv];exact d
 rw[a];exact .inl ⟨rfl,rfl⟩
theorem zU(h:aj (ws.length:Int)=false):bh ws f s=8:=by unfold bh;rw[ft,h];rfl
theorem Df(h:aj (ws.length:Int)=true)(h2:fU ws.length f s=true):bh ws f s=2:=by unfold bh;rw[ft,h,h2];rfl
theorem xz(h:aj (ws.length:Int)=true)(h2:fU ws.length f s=false)(h3:blocks ws f.toNat=none):bh ws f s=50:=by unfold bh lB;rw[ft,h,h2,h3];rfl
theorem y6(h:aj (ws.length:Int)=true)(h2:fU ws.length f s=false)(h3:blocks ws f.toNat=some l)(h4:ci ws l s=false):bh ws f s=50:=by rw[iY (by rw[ft];exact h) h2 h3,h4];rfl
theorem EE(h:aj (ws.length:Int)=true)(h2:fU ws.length f s=false)(h3:blocks ws f.toNat=some l)(h4:ci ws l s=true):bh ws f s=0/\iB ws f s=aB l s:=by
 have a:bh ws f s=0:=by rw[iY (by rw[ft];exact h) h2 h3,if_pos h4]
 exact⟨a,by unfold iB;rw[if_pos a,h3]⟩
theorem qq(h:fU n f s=false):fe n f=false:=by have:=gQ h;simp only[fe,kzn,kqc,kqr];omega
theorem IR(hst:eB l s=0)(hk:k<l.length)(h:ci ws (l.take k) s=true):
 (dK ws l[k]=false->ci ws l s=false) /\
 (dK ws l[k]=true->a8 l[k]=true->l[k].next≠bE l[k] (aP (l.take k) s)->ci ws l s=false) /\
 (dK ws l[k]=true->a8 l[k]=true->l[k].next=bE l[k] (aP (l.take k) s)->ci ws (l.take (k+1)) s=true/\aB (l.take (k+1)) s=aB (l.take k) s++[(l[k].at_,((bE l[k] (aP (l.take k) s):Nat):Int))]) /\
 (dK ws l[k]=true->a8 l[k]=false->ci ws (l.take (k+1)) s=true/\aB (l.take (k+1)) s=aB (l.take k) s):=by
 obtain⟨j,g,i,_⟩:=eQ hst;have hb:=lv j (kxn hk) g i;have c:=po (ws:=ws) hk s;have e:=wz hk s;rw[h,kzq] at c;have f:a8 l[k]=true->bE l[k] (aP (l.take k) s)=(aP (l.take k) s).toNat:=λa=>by unfold bE;rw[if_pos a]
 refine⟨λb=>?_,λb a d=>?_,λb a d=>?_,λb a=>?_⟩
 .refine rL (k:=k+1) ?_;rw[c,b];rfl
 .refine rL (k:=k+1) ?_;rw[f a] at d;rw[c,b,a,show ((l[k].next:Int)==aP (l.take k) s)=false by rw[kqi];omega];rfl
 .rw[f a] at d |-;rw[c,e,b,a,show ((l[k].next:Int)==aP (l.take k) s)=true by rw[kqw];omega,kj9 (by omega)];exact⟨rfl,rfl⟩
 rw[c,e,b,a];exact⟨rfl,by simp⟩
theorem mt(l:List Bk):∀s,(aB l s).length<=l.length:=by
 induction l with
 | nil=>intro s;exact kqa _
 | cons b l ih =>
  intro s;simp only[aB];split
  .have:=ih (s+b.size);simp only[kq0];omega
  have:=ih s;simp only[kq0];omega
theorem pS(A:Option Addr)(ws:List Nat)(c n:Nat)(f s:Int)(w:World)(hn:ws.length=n)(hm:n<=9223372036854775807)(hf : -9223372036854775808<=f/\f<=9223372036854775807)(hs : -9223372036854775808<=s/\s<=9223372036854775807)(hr:RdW w w.heap.size A ws)(ho:∀x∈ws,x<18446744073709551616):
 Calls prog 161 #[.slice A n c,.int .i64 f,.int .i64 s] w λe w'=>yH ws f s e w'/\Below w.heap.size w w':=by
 subst hn;have HR:=hid hr;have HO:=hid ho;obtain⟨f1,f2⟩:=hf;obtain⟨s1,s2⟩:=hs;clear hr ho;cases hs:aj (ws.length:Int)
 .have HI:=hid (bI hs);have HE:=hid (zU (f:=f) (s:=s) hs);clear hs;go_enter func161,ntmps161;go_wp2_with fail;refine (aG A ws.length c w hm).mono ?_;rintro e w1 ⟨rfl,rfl⟩;rw[HI.out];go_wp2;go_ret2;exact⟨lm HE.out (by omega),kqk _ _⟩
 have HI:=hid (aZ hs);obtain⟨Lw,hb2,Ka⟩:=gX ws hs;have HS:=hid hs;clear hs Ka;cases L:fU ws.length f s
 .have P:=hid L;obtain⟨a1,a2,a3,a4,a5⟩:=gQ L;obtain⟨i,rfl⟩:=kq2 (show 0<=f by omega);obtain⟨u,rfl⟩:=kq2 (show 0<=s by omega);have Me:=hid (λl (h:blocks ws i=some l)=>cO HS.out (qq P.out) (l:=l) (by rw[kqj];exact h));have Lr:=hid (λ(h:blocks ws i=none)=>eP HS.out (qq P.out) (by rw[kqj];exact h));have Lz:=hid (λl (h:blocks ws i=some l)=>lq (ws:=ws) (i:=i) (l:=l) (by omega) h (by omega) (by omega) (by omega) (s:=(u:Int)) (by omega) (by omega) (by omega));have Md:=hid (λl (h:blocks ws i=some l)=>(bK (ws:=ws) (by omega) i l h (by omega) (by omega) (by omega)).1);have Lu:=hid (λl (h:blocks ws i=some l) k (hk:k<l.length) h1=>jM (ws:=ws) h (by omega) (k:=k) hk h1);have Kb:=hid (mf A ws c ws.length (i:Int) w rfl hm HR.out HO.out);unfold qW at Kb;have e1:((i:Int)%2 != 0)=false:=by rw[kqr];exact a1
  have e2:((u:Int)%2 != 0)=false:=by rw[kqr];exact a2
  have d1:decide ((u:Int)<128)=false:=by rw[kqc];omega
  have d2:decide ((i:Int)<(u:Int))=false:=by rw[kqc];omega
  have d2n:decide (i<u)=false:=by rw[kqc];omega
  have d3:decide ((ws.length:Int)<(i:Int))=false:=by rw[kqc];omega
  have d3n:decide (ws.length<i)=false:=by rw[kqc];omega
  have u0:(0:Int)<=(u:Int):=by omega
  have i0':(0:Int)<=(i:Int):=by omega
  clear L a1 a2;cases Q:blocks ws i with
  | none =>have HE:=hid (xz HS.out P.out (by rw[kqj];exact Q));rw[Lr.out Q] at Kb;obtain⟨l,hl⟩:∃l,aQ ws (i:Int)=l:=⟨_,rfl⟩;rw[hl] at Kb;clear Q hl;go_enter func161,ntmps161;go_wp2_with fail;refine (aG A ws.length c w hm).mono ?_;rintro e w1 ⟨rfl,rfl⟩;rw[HI.out];go_wp2_with fail;refine Kb.out.mono ?_;rintro e w1 ⟨⟨A1,c1,rfl,-,-⟩,Ly⟩;go_wp2;go_ret2;exact⟨lm HE.out (by omega),Ly⟩
  | some l =>
   have Kt:=hid Q;have Kp:=hid (Lz.out l Q);have hlen:=Md.out l Q;obtain⟨g1,g2⟩:=Me.out l Q;rw[g1,g2] at Kb;have Kv:=hid (λ(A2:Option Addr) (c2:Nat) (W:World) (h:RdB W W.heap.size A2 l)=>ve A2 l c2 l.length (u:Int) W rfl (by omega) h (by omega));unfold y9 at Kv;rw[Kp.out] at Kv;clear Q g1 g2;obtain⟨i2,hi,Lf,Lh,Km⟩:=kzw F1;have HJ:=hid hi;have Ma:=hid Lf;have Lv:=hid Lh;have Mc:=hid Km;clear hi Lf Lh Km;go_enter func161,ntmps161;go_wp2_with fail;refine (aG A ws.length c w hm).mono ?_;rintro e w1 ⟨rfl,rfl⟩;rw[HI.out];go_wp2_with fail;refine Kb.out.mono ?_;rintro e w2 ⟨⟨A1,c1,rfl,Ld,-⟩,Li⟩;have Km:=Li.size;have Kz:=hid Ld;clear Ld;go_wp2_with fail;refine (Kv.out A1 c1 _ Kz.out).mono ?_;rintro e w3 ⟨⟨A2,c2,rfl,Lp,-⟩,Kx⟩;have Ka:=Li.trans (Kx.mono Km);have Kk:=Ka.size;have Lb:=hid Lp;have Lg:=hid (Kz.out.up Kx Kx.size);have Ki:=hid (HR.out.up Ka Kk);clear Lp Kz;obtain⟨pl,Kn⟩:∃pl,jp l (u:Int)=pl:=⟨_,rfl⟩;rw[Kn] at Lb |-;have Kr:pl.length=l.length:=by rw[<-Kn];simp[jp,Kp.out,dt]
   have Lq:=hid (λk (hk:k<l.length)=>vw Kp.out hk);rw[Kn] at Lq;rw[Kr];clear Kn Kr;go_wp2_with fail;go_loopw [13,61] (λv i wr=>∃k:Nat,k<=l.length/\i=.int .i64 k/\Hid (ci ws (l.take k) (u:Int)=true)/\wr.ownsRow w3.heap.size 275 2 v (aB (l.take k) (u:Int)).length ((aB (l.take k) (u:Int)).flatMap qo)/\Below w3.heap.size w3 wr) (λ_ i _=>l.length-(intOf i).toNat)
   case atStart=>exact⟨0,kqy _,rfl,rfl,kza _ _ _ _,kqk _ _⟩
   obtain⟨k,hk,rfl,Le,y,hB⟩:=hrel;have hz:=hB.size;by_cases Kh:k<l.length
   .obtain ⟨b,off,rfl,hbw,q0,q1,q2,q3,q4,q5⟩:=RdB.at_ (Lg.out.below hB) Kh;obtain⟨Mg,Lo,Mf⟩:=Lq.out k Kh;obtain⟨I,j,rfl,Lj,p0⟩:=RdI.at_ (Lb.out.below hB) Mg;rw[Lo] at p0;have E:=hid (IR (ws:=ws) Kp.out Kh Le.out);have Ko:=hid (Lu.out l Kt.out k Kh);have Ks:=hid (λh=>y6 HS.out P.out (l:=l) (by rw[kqj];exact Kt.out) h);have Ku:=mt (l.take k) (u:Int);rw[kq3] at Ku;obtain⟨m,Kl⟩:∃m,aB (l.take k) (u:Int)=m:=⟨_,rfl⟩;rw[Kl] at y E Ku;obtain⟨v,hv⟩:∃v,bE l[k] (aP (l.take k) (u:Int))=v:=⟨_,rfl⟩;rw[hv] at Mf p0 E;obtain⟨x,hx⟩:=xq (l[k]);rw[hx] at q0 q1 q2 q3 q4 q5 E Ko;obtain⟨z,xs,xk,xt,O,r⟩:=x;dsimp only at q0 q1 q2 q3 q4 q5 Ko;have hlm:(k:Int)<(l.length:Int):=by omega
    have hml2:m.length<=2048:=by omega
    have hv2:(v:Int)<=2048:=by omega
    have hv0:(0:Int)<=(v:Int):=by omega
    have hk0:(0:Int)<=(k:Int):=by omega
    have hwv:IntKind.u64.wrap (v:Int)=(v:Int):=kzt _ (by omega);clear hx Kl Ku hv Lo;by_cases Kc:xk=1
    .obtain ⟨t0,t8⟩:=Ko.out Kc;obtain⟨t,rfl⟩:=kq2 t0;subst Kc;have HT:=hid (λW (h:RdW W W.heap.size A ws)=>BR A ws c ws.length t z xs 1 O r W rfl (by omega) Lw (by omega) h HO.out);have Kg:dK ws ⟨z,xs,1,(t:Int),O,r⟩=cZ ws ⟨z,xs,1,(t:Int),O,r⟩:=rfl;have Kd:a8 ⟨z,xs,1,(t:Int),O,r⟩=O:=rfl;rw[Kg,Kd] at E;obtain⟨q,hq⟩:∃q,cZ ws ⟨z,xs,1,(t:Int),O,r⟩=q:=⟨_,rfl⟩;rw[hq] at E HT;clear hq Kg Kd Ko;cases q
     .have HE:=hid (Ks.out (E.out.1 rfl));clear E;go_wp2_with fail;obtain⟨C,G⟩:∃C,wr.alloc (.cells #[.int .i64 z,.int .i64 xs,.int .i64 1,.int .i64 (t:Int),.bool O,.int .u64 (r:Int)] 55)=C:=⟨_,rfl⟩;have N:=Bx.new wr 55 #[.int .i64 z,.int .i64 xs,.int .i64 1,.int .i64 (t:Int),.bool O,.int .u64 (r:Int)];have o:=hB.alloc hz (.cells #[.int .i64 z,.int .i64 xs,.int .i64 1,.int .i64 (t:Int),.bool O,.int .u64 (r:Int)] 55);have d:=y.alloc (.cells #[.int .i64 z,.int .i64 xs,.int .i64 1,.int .i64 (t:Int),.bool O,.int .u64 (r:Int)] 55);have F:(wr.alloc (.cells #[.int .i64 z,.int .i64 xs,.int .i64 1,.int .i64 (t:Int),.bool O,.int .u64 (r:Int)] 55)).heap.size=wr.heap.size+1:=by simp
      have B:=(kzk wr (.cells #[.int .i64 z,.int .i64 xs,.int .i64 1,.int .i64 (t:Int),.bool O,.int .u64 (r:Int)] 55) ⟨I,j+k,none⟩ (by dsimp only;omega)).trans p0;rw[G] at N o d F B |-;clear G;have V:=hid (Ki.out.up o o.size);have H:=hid o;have M:=hid d;have BX:=hid N;obtain⟨Y,x1,x2,T,Z,x5,-,g⟩:=N.c6;have R:I<C.heap.size:=by omega
      clear o d N y q0 q1 q2 q3 q4 q5 p0;refine kxq (S:=λX:World=>X.cell? ⟨wr.heap.size,0,none⟩=some (.int .i64 z)/\X.cell? ⟨wr.heap.size,1,none⟩=some (.int .i64 xs)/\X.cell? ⟨wr.heap.size,2,none⟩=some (.int .i64 1)/\X.cell? ⟨wr.heap.size,3,none⟩=some (.int .i64 (t:Int))/\X.cell? ⟨wr.heap.size,4,none⟩=some (.bool O)/\X.cell? ⟨wr.heap.size,5,none⟩=some (.int .u64 (r:Int))/\X.cell? ⟨I,j+k,none⟩=some (.int .i64 (v:Int))) (by kernel_rfl) ⟨Y,x1,x2,T,Z,x5,B⟩ (λD=>?_);show wpAnyH _ _ _ _ _ 18 #[false,false,false,false,false,false,false,false,false,false,false,false,false,false,false,false,false,false] _ _;refine tj 0 (.slice A ws.length c) ?_;dsimp only[Act.put,kqh,kqe,kqd,kqb,kqg,kqf];refine tj 1 (.agg #[.int .i64 z,.int .i64 xs,.int .i64 1,.int .i64 (t:Int),.bool O,.int .u64 (r:Int)]) ?_
      dsimp only[Act.put,kqh,kqe,kqd,kqb,kqg,kqf];refine kz5 (rs:=[2]) (by kernel_rfl) (by simp) ?_;refine AllReadyH.cons rfl (λK hK=>?_) AllReadyH.nil;go_simp;refine (HT.out C.drew (show RdW C.drew C.drew.heap.size A ws from V.out)).mono ?_;rintro e w5 ⟨rfl,a⟩;go_simp;have J:=hid a;refine hK.out _ _ ⟨(a.cell (p:=⟨wr.heap.size,0,none⟩) g).trans Y,(a.cell (p:=⟨wr.heap.size,1,none⟩) g).trans x1,(a.cell (p:=⟨wr.heap.size,2,none⟩) g).trans x2,(a.cell (p:=⟨wr.heap.size,3,none⟩) g).trans T,(a.cell (p:=⟨wr.heap.size,4,none⟩) g).trans Z,(a.cell (p:=⟨wr.heap.size,5,none⟩) g).trans x5,(a.cell (p:=⟨I,j+k,none⟩) R).trans B⟩ (λEq=>?_);clear hK K;refine tj 3 (.bool true) ?_;dsimp only[Act.put,kqh,kqe,kqd,kqb,kqg,kqf];refine tj 4 (.bool true) ?_;dsimp only[Act.put,kqh,kqe,kqd,kqb,kqg,kqf];refine sk 5 ?_;dsimp only[Act.put,kqh,kqe,kqd,kqb,kqg,kqf];refine sk 6 ?_;dsimp only[Act.put,kqh,kqe,kqd,kqb,kqg,kqf];refine sk 7 ?_;dsimp only[Act.put,kqh,kqe,kqd,kqb,kqg,kqf];refine sk 8 ?_;dsimp only[Act.put,kqh,kqe,kqd,kqb,kqg,kqf];refine sk 9 ?_;dsimp only[Act.put,kqh,kqe,kqd,kqb,kqg,kqf];refine sk 10 ?_;dsimp only[Act.put,kqh,kqe,kqd,kqb,kqg,kqf];refine sk 11 ?_;dsimp only[Act.put,kqh,kqe,kqd,kqb,kqg,kqf];refine sk 12 ?_;dsimp only[Act.put,kqh,kqe,kqd,kqb,kqg,kqf];refine sk 13 ?_
      dsimp only[Act.put,kqh,kqe,kqd,kqb,kqg,kqf];refine sk 14 ?_;dsimp only[Act.put,kqh,kqe,kqd,kqb,kqg,kqf];refine sk 15 ?_;dsimp only[Act.put,kqh,kqe,kqd,kqb,kqg,kqf];refine sk 16 ?_;dsimp only[Act.put,kqh,kqe,kqd,kqb,kqg,kqf];refine tj 17 (.bool true) ?_;dsimp only[Act.put,kqh,kqe,kqd,kqb,kqg,kqf];refine kj4 (by kernel_rfl) ?_ _;obtain⟨m0,m1,m2,m3,m4,m5,m6⟩:=Eq;clear D a Y x1 x2 T Z x5 B;go_simp;go_wp2;go_ret2;exact⟨lm HE.out (by omega),Ka.trans ((H.out.trans ((kqk _ _).drew.trans (J.out.mono H.out.size))).mono Kk)⟩
     cases O
     .have HY:=hid (E.out.2.2.2 rfl rfl);clear E;go_wp2_with fail;obtain⟨C,G⟩:∃C,wr.alloc (.cells #[.int .i64 z,.int .i64 xs,.int .i64 1,.int .i64 (t:Int),.bool false,.int .u64 (r:Int)] 55)=C:=⟨_,rfl⟩;have N:=Bx.new wr 55 #[.int .i64 z,.int .i64 xs,.int .i64 1,.int .i64 (t:Int),.bool false,.int .u64 (r:Int)];have o:=hB.alloc hz (.cells #[.int .i64 z,.int .i64 xs,.int .i64 1,.int .i64 (t:Int),.bool false,.int .u64 (r:Int)] 55);have d:=y.alloc (.cells #[.int .i64 z,.int .i64 xs,.int .i64 1,.int .i64 (t:Int),.bool false,.int .u64 (r:Int)] 55);have F:(wr.alloc (.cells #[.int .i64 z,.int .i64 xs,.int .i64 1,.int .i64 (t:Int),.bool false,.int .u64 (r:Int)] 55)).heap.size=wr.heap.size+1:=by simp
      have B:=(kzk wr (.cells #[.int .i64 z,.int .i64 xs,.int .i64 1,.int .i64 (t:Int),.bool false,.int .u64 (r:Int)] 55) ⟨I,j+k,none⟩ (by dsimp only;omega)).trans p0;rw[G] at N o d F B |-;clear G;have V:=hid (Ki.out.up o o.size);have H:=hid o;have M:=hid d;have BX:=hid N;obtain⟨Y,x1,x2,T,Z,x5,-,g⟩:=N.c6;have R:I<C.heap.size:=by omega
      clear o d N y q0 q1 q2 q3 q4 q5 p0;refine kxq (S:=λX:World=>X.cell? ⟨wr.heap.size,0,none⟩=some (.int .i64 z)/\X.cell? ⟨wr.heap.size,1,none⟩=some (.int .i64 xs)/\X.cell? ⟨wr.heap.size,2,none⟩=some (.int .i64 1)/\X.cell? ⟨wr.heap.size,3,none⟩=some (.int .i64 (t:Int))/\X.cell? ⟨wr.heap.size,4,none⟩=some (.bool false)/\X.cell? ⟨wr.heap.size,5,none⟩=some (.int .u64 (r:Int))/\X.cell? ⟨I,j+k,none⟩=some (.int .i64 (v:Int))) (by kernel_rfl) ⟨Y,x1,x2,T,Z,x5,B⟩ (λD=>?_);show wpAnyH _ _ _ _ _ 18 #[false,false,false,false,false,false,false,false,false,false,false,false,false,false,false,false,false,false] _ _;refine tj 0 (.slice A ws.length c) ?_;dsimp only[Act.put,kqh,kqe,kqd,kqb,kqg,kqf];refine tj 1 (.agg #[.int .i64 z,.int .i64 xs,.int .i64 1,.int .i64 (t:Int),.bool false,.int .u64 (r:Int)]) ?_
      dsimp only[Act.put,kqh,kqe,kqd,kqb,kqg,kqf];refine kz5 (rs:=[2]) (by kernel_rfl) (by simp) ?_;refine AllReadyH.cons rfl (λK hK=>?_) AllReadyH.nil;go_simp;refine (HT.out C.drew (show RdW C.drew C.drew.heap.size A ws from V.out)).mono ?_;rintro e w5 ⟨rfl,a⟩;go_simp;have J:=hid a;refine hK.out _ _ ⟨(a.cell (p:=⟨wr.heap.size,0,none⟩) g).trans Y,(a.cell (p:=⟨wr.heap.size,1,none⟩) g).trans x1,(a.cell (p:=⟨wr.heap.size,2,none⟩) g).trans x2,(a.cell (p:=⟨wr.heap.size,3,none⟩) g).trans T,(a.cell (p:=⟨wr.heap.size,4,none⟩) g).trans Z,(a.cell (p:=⟨wr.heap.size,5,none⟩) g).trans x5,(a.cell (p:=⟨I,j+k,none⟩) R).trans B⟩ (λEq=>?_);clear hK K;refine tj 3 (.bool false) ?_;dsimp only[Act.put,kqh,kqe,kqd,kqb,kqg,kqf];refine tj 4 (.bool false) ?_;dsimp only[Act.put,kqh,kqe,kqd,kqb,kqg,kqf];refine tj 5 (.pointer (some ⟨wr.heap.size,4,none⟩)) ?_;dsimp only[Act.put,kqh,kqe,kqd,kqb,kqg,kqf];refine tj 6 (.bool false) ?_;dsimp only[Act.put,kqh,kqe,kqd,kqb,kqg,kqf];refine tj 7 (.bool false) ?_;dsimp only[Act.put,kqh,kqe,kqd,kqb,kqg,kqf];refine sk 8 ?_;dsimp only[Act.put,kqh,kqe,kqd,kqb,kqg,kqf];refine sk 9 ?_;dsimp only[Act.put,kqh,kqe,kqd,kqb,kqg,kqf];refine sk 10 ?_;dsimp only[Act.put,kqh,kqe,kqd,kqb,kqg,kqf];refine sk 11 ?_;dsimp only[Act.put,kqh,kqe,kqd,kqb,kqg,kqf]
      refine sk 12 ?_;dsimp only[Act.put,kqh,kqe,kqd,kqb,kqg,kqf];refine sk 13 ?_;dsimp only[Act.put,kqh,kqe,kqd,kqb,kqg,kqf];refine sk 14 ?_;dsimp only[Act.put,kqh,kqe,kqd,kqb,kqg,kqf];refine sk 15 ?_;dsimp only[Act.put,kqh,kqe,kqd,kqb,kqg,kqf];refine tj 16 (.bool false) ?_;dsimp only[Act.put,kqh,kqe,kqd,kqb,kqg,kqf];refine tj 17 (.bool false) ?_;dsimp only[Act.put,kqh,kqe,kqd,kqb,kqg,kqf];refine kj4 (by kernel_rfl) ?_ _;obtain⟨m0,m1,m2,m3,m4,m5,m6⟩:=Eq;clear D a Y x1 x2 T Z x5 B;go_simp;go_wp2;go_roundw
      case rel=>exact⟨k+1,by omega,by go_num,HY.out.1,by rw[HY.out.2];exact ai (show (C.drew).ownsRow _ _ _ _ _ _ from M.out) J.out (kqa _),H.out.trans ((kqk _ _).drew.trans (J.out.mono H.out.size))⟩
      case measure=>simp[intOf];omega
     by_cases Kj:r=v
     .have Lx:((r:Int) != (v:Int))=false:=by rw[kqr];omega
      have Ls:=hid (qh y);have HY:=hid (E.out.2.2.1 rfl rfl Kj);clear E Kj;go_wp2_with fail;obtain⟨C,G⟩:∃C,wr.alloc (.cells #[.int .i64 z,.int .i64 xs,.int .i64 1,.int .i64 (t:Int),.bool true,.int .u64 (r:Int)] 55)=C:=⟨_,rfl⟩;have N:=Bx.new wr 55 #[.int .i64 z,.int .i64 xs,.int .i64 1,.int .i64 (t:Int),.bool true,.int .u64 (r:Int)];have o:=hB.alloc hz (.cells #[.int .i64 z,.int .i64 xs,.int .i64 1,.int .i64 (t:Int),.bool true,.int .u64 (r:Int)] 55);have d:=y.alloc (.cells #[.int .i64 z,.int .i64 xs,.int .i64 1,.int .i64 (t:Int),.bool true,.int .u64 (r:Int)] 55);have F:(wr.alloc (.cells #[.int .i64 z,.int .i64 xs,.int .i64 1,.int .i64 (t:Int),.bool true,.int .u64 (r:Int)] 55)).heap.size=wr.heap.size+1:=by simp
      have B:=(kzk wr (.cells #[.int .i64 z,.int .i64 xs,.int .i64 1,.int .i64 (t:Int),.bool true,.int .u64 (r:Int)] 55) ⟨I,j+k,none⟩ (by dsimp only;omega)).trans p0;rw[G] at N o d F B |-;clear G;have V:=hid (Ki.out.up o o.size);have H:=hid o;have M:=hid d;have BX:=hid N;obtain⟨Y,x1,x2,T,Z,x5,-,g⟩:=N.c6;have R:I<C.heap.size:=by omega
      clear o d N y q0 q1 q2 q3 q4 q5 p0;refine kxq (S:=λX:World=>X.cell? ⟨wr.heap.size,0,none⟩=some (.int .i64 z)/\X.cell? ⟨wr.heap.size,1,none⟩=some (.int .i64 xs)/\X.cell? ⟨wr.heap.size,2,none⟩=some (.int .i64 1)/\X.cell? ⟨wr.heap.size,3,none⟩=some (.int .i64 (t:Int))/\X.cell? ⟨wr.heap.size,4,none⟩=some (.bool true)/\X.cell? ⟨wr.heap.size,5,none⟩=some (.int .u64 (r:Int))/\X.cell? ⟨I,j+k,none⟩=some (.int .i64 (v:Int))) (by kernel_rfl) ⟨Y,x1,x2,T,Z,x5,B⟩ (λD=>?_);show wpAnyH _ _ _ _ _ 18 #[false,false,false,false,false,false,false,false,false,false,false,false,false,false,false,false,false,false] _ _;refine tj 0 (.slice A ws.length c) ?_;dsimp only[Act.put,kqh,kqe,kqd,kqb,kqg,kqf];refine tj 1 (.agg #[.int .i64 z,.int .i64 xs,.int .i64 1,.int .i64 (t:Int),.bool true,.int .u64 (r:Int)]) ?_
      dsimp only[Act.put,kqh,kqe,kqd,kqb,kqg,kqf];refine kz5 (rs:=[2]) (by kernel_rfl) (by simp) ?_;refine AllReadyH.cons rfl (λK hK=>?_) AllReadyH.nil;go_simp;refine (HT.out C.drew (show RdW C.drew C.drew.heap.size A ws from V.out)).mono ?_;rintro e w5 ⟨rfl,a⟩;go_simp;have J:=hid a;refine hK.out _ _ ⟨(a.cell (p:=⟨wr.heap.size,0,none⟩) g).trans Y,(a.cell (p:=⟨wr.heap.size,1,none⟩) g).trans x1,(a.cell (p:=⟨wr.heap.size,2,none⟩) g).trans x2,(a.cell (p:=⟨wr.heap.size,3,none⟩) g).trans T,(a.cell (p:=⟨wr.heap.size,4,none⟩) g).trans Z,(a.cell (p:=⟨wr.heap.size,5,none⟩) g).trans x5,(a.cell (p:=⟨I,j+k,none⟩) R).trans B⟩ (λEq=>?_);clear hK K;refine tj 3 (.bool false) ?_;dsimp only[Act.put,kqh,kqe,kqd,kqb,kqg,kqf];refine tj 4 (.bool false) ?_;dsimp only[Act.put,kqh,kqe,kqd,kqb,kqg,kqf];refine tj 5 (.pointer (some ⟨wr.heap.size,4,none⟩)) ?_;dsimp only[Act.put,kqh,kqe,kqd,kqb,kqg,kqf];refine tj 6 (.bool true) ?_;dsimp only[Act.put,kqh,kqe,kqd,kqb,kqg,kqf];refine tj 7 (.bool true) ?_;dsimp only[Act.put,kqh,kqe,kqd,kqb,kqg,kqf];refine tj 8 (.pointer (some ⟨wr.heap.size,5,none⟩)) ?_;dsimp only[Act.put,kqh,kqe,kqd,kqb,kqg,kqf];refine tj 9 (.int .u64 (r:Int)) ?_;dsimp only[Act.put,kqh,kqe,kqd,kqb,kqg,kqf];refine tj 10 (.slice (some ⟨I,j,none⟩) l.length c2) ?_;dsimp only[Act.put,kqh,kqe,kqd,kqb,kqg,kqf];refine tj 11 (.int .i64 (k:Int)) ?_
      dsimp only[Act.put,kqh,kqe,kqd,kqb,kqg,kqf];refine tj 12 (.pointer (some ⟨I,j+k,none⟩)) ?_;dsimp only[Act.put,kqh,kqe,kqd,kqb,kqg,kqf];refine tj 13 (.int .i64 (v:Int)) ?_;dsimp only[Act.put,kqh,kqe,kqd,kqb,kqg,kqf];refine tj 14 (.int .u64 (v:Int)) ?_;dsimp only[Act.put,kqh,kqe,kqd,kqb,kqg,kqf];refine tj 15 (.bool false) ?_;dsimp only[Act.put,kqh,kqe,kqd,kqb,kqg,kqf];refine tj 16 (.bool false) ?_;dsimp only[Act.put,kqh,kqe,kqd,kqb,kqg,kqf];refine tj 17 (.bool false) ?_;dsimp only[Act.put,kqh,kqe,kqd,kqb,kqg,kqf];refine kj4 (by kernel_rfl) ?_ _;obtain⟨m0,m1,m2,m3,m4,m5,m6⟩:=Eq;clear D a Y x1 x2 T Z x5 B;go_simp;go_wp2_with fail;have Kf:=H.out.trans ((kqk _ _).drew.trans (J.out.mono H.out.size));have Ke:=ai (show (C.drew).ownsRow _ _ _ _ _ _ from M.out) J.out (kqa _);have Mb:=Kf.size;have La:=bH M.out Lj;have Lk:some wr.heap.size≠Value.ownBlock u13:=Ls.out;have hg5:wr.heap.size<w5.heap.size:=by have:=J.out.size;have:C.drew.heap.size=C.heap.size:=rfl;omega
      have hp5:I<w5.heap.size:=by omega
      have Lt:m.length+1<=maxLen:=by unfold maxLen;omega
      have Kl:(m.length+1)*16<=140737488355328:=by omega
      have Lc:=hid Kf;clear Kf m1 m2 m3 m4 m5
      first
       | (go_region_held3 (λX:World=>X.cell? ⟨wr.heap.size,0,none⟩=some (.int .i64 z)/\X.cell? ⟨I,j+k,none⟩=some (.int .i64 (v:Int)))
        (first | go_keep | (
         go_split_ands
         refine⟨?_,?_⟩
         . (rw[U.cell_far _ (by simp;omega) Lk];assumption)
         (rw[U.cell_far _ (by simp;omega) La];assumption)))
        ((refine step_append_lies _ (by rfl) _ _ _ (by rfl) w3.heap.size 275 i2 _ 2 16 underlying223 HJ.out Ma.out Lv.out Mc.out rfl (by omega) u13 m.length (m.flatMap qo) (by rfl) ((show (w5.drew).ownsRow _ _ _ _ _ _ from Ke).alloc _) ⟨w5.heap.size,0,none⟩ 1 1 [.int .i64 z,.int .i64 (v:Int)] (by rfl) (by rfl) (World.news_of_block (cs:=#[.int .i64 z,.int .i64 (v:Int)]) (t:=275) (fr:=(0,0)) (heap_alloc_new w5.drew _)) (by simp[Value.oneCell']) (by omega) Lt Kl (by simp;omega) (w5.heap.size+1) (by simp) ?_;intro gg cap w6 Ky U hat hlt6)))
       | fail
      go_wp2;go_roundw
      case rel=>exact⟨k+1,by omega,by go_num,HY.out.1,by rw[HY.out.2,kqu,cq];exact Ky,aE (w:=w3) (wr:=w5.drew) (Lc.out.trans (kqk _ _).drew) Mb (show (w5.drew).ownsRow _ _ _ _ _ _ from Ke) U⟩
      case measure=>simp[intOf];omega
     have Lx:((r:Int) != (v:Int))=true:=by rw[kqv];omega
     have HE:=hid (Ks.out (E.out.2.1 rfl rfl Kj));clear E Kj;go_wp2_with fail;obtain⟨C,G⟩:∃C,wr.alloc (.cells #[.int .i64 z,.int .i64 xs,.int .i64 1,.int .i64 (t:Int),.bool true,.int .u64 (r:Int)] 55)=C:=⟨_,rfl⟩;have N:=Bx.new wr 55 #[.int .i64 z,.int .i64 xs,.int .i64 1,.int .i64 (t:Int),.bool true,.int .u64 (r:Int)];have o:=hB.alloc hz (.cells #[.int .i64 z,.int .i64 xs,.int .i64 1,.int .i64 (t:Int),.bool true,.int .u64 (r:Int)] 55);have d:=y.alloc (.cells #[.int .i64 z,.int .i64 xs,.int .i64 1,.int .i64 (t:Int),.bool true,.int .u64 (r:Int)] 55);have F:(wr.alloc (.cells #[.int .i64 z,.int .i64 xs,.int .i64 1,.int .i64 (t:Int),.bool true,.int .u64 (r:Int)] 55)).heap.size=wr.heap.size+1:=by simp
     have B:=(kzk wr (.cells #[.int .i64 z,.int .i64 xs,.int .i64 1,.int .i64 (t:Int),.bool true,.int .u64 (r:Int)] 55) ⟨I,j+k,none⟩ (by dsimp only;omega)).trans p0;rw[G] at N o d F B |-;clear G;have V:=hid (Ki.out.up o o.size);have H:=hid o;have M:=hid d;have BX:=hid N;obtain⟨Y,x1,x2,T,Z,x5,-,g⟩:=N.c6;have R:I<C.heap.size:=by omega
     clear o d N y q0 q1 q2 q3 q4 q5 p0;refine kxq (S:=λX:World=>X.cell? ⟨wr.heap.size,0,none⟩=some (.int .i64 z)/\X.cell? ⟨wr.heap.size,1,none⟩=some (.int .i64 xs)/\X.cell? ⟨wr.heap.size,2,none⟩=some (.int .i64 1)/\X.cell? ⟨wr.heap.size,3,none⟩=some (.int .i64 (t:Int))/\X.cell? ⟨wr.heap.size,4,none⟩=some (.bool true)/\X.cell? ⟨wr.heap.size,5,none⟩=some (.int .u64 (r:Int))/\X.cell? ⟨I,j+k,none⟩=some (.int .i64 (v:Int))) (by kernel_rfl) ⟨Y,x1,x2,T,Z,x5,B⟩ (λD=>?_);show wpAnyH _ _ _ _ _ 18 #[false,false,false,false,false,false,false,false,false,false,false,false,false,false,false,false,false,false] _ _;refine tj 0 (.slice A ws.length c) ?_;dsimp only[Act.put,kqh,kqe,kqd,kqb,kqg,kqf];refine tj 1 (.agg #[.int .i64 z,.int .i64 xs,.int .i64 1,.int .i64 (t:Int),.bool true,.int .u64 (r:Int)]) ?_
     dsimp only[Act.put,kqh,kqe,kqd,kqb,kqg,kqf];refine kz5 (rs:=[2]) (by kernel_rfl) (by simp) ?_;refine AllReadyH.cons rfl (λK hK=>?_) AllReadyH.nil;go_simp;refine (HT.out C.drew (show RdW C.drew C.drew.heap.size A ws from V.out)).mono ?_;rintro e w5 ⟨rfl,a⟩;go_simp;have J:=hid a;refine hK.out _ _ ⟨(a.cell (p:=⟨wr.heap.size,0,none⟩) g).trans Y,(a.cell (p:=⟨wr.heap.size,1,none⟩) g).trans x1,(a.cell (p:=⟨wr.heap.size,2,none⟩) g).trans x2,(a.cell (p:=⟨wr.heap.size,3,none⟩) g).trans T,(a.cell (p:=⟨wr.heap.size,4,none⟩) g).trans Z,(a.cell (p:=⟨wr.heap.size,5,none⟩) g).trans x5,(a.cell (p:=⟨I,j+k,none⟩) R).trans B⟩ (λEq=>?_);clear hK K;refine tj 3 (.bool false) ?_;dsimp only[Act.put,kqh,kqe,kqd,kqb,kqg,kqf];refine tj 4 (.bool false) ?_;dsimp only[Act.put,kqh,kqe,kqd,kqb,kqg,kqf];refine tj 5 (.pointer (some ⟨wr.heap.size,4,none⟩)) ?_;dsimp only[Act.put,kqh,kqe,kqd,kqb,kqg,kqf];refine tj 6 (.bool true) ?_;dsimp only[Act.put,kqh,kqe,kqd,kqb,kqg,kqf];refine tj 7 (.bool true) ?_;dsimp only[Act.put,kqh,kqe,kqd,kqb,kqg,kqf];refine tj 8 (.pointer (some ⟨wr.heap.size,5,none⟩)) ?_;dsimp only[Act.put,kqh,kqe,kqd,kqb,kqg,kqf];refine tj 9 (.int .u64 (r:Int)) ?_;dsimp only[Act.put,kqh,kqe,kqd,kqb,kqg,kqf];refine tj 10 (.slice (some ⟨I,j,none⟩) l.length c2) ?_;dsimp only[Act.put,kqh,kqe,kqd,kqb,kqg,kqf];refine tj 11 (.int .i64 (k:Int)) ?_
     dsimp only[Act.put,kqh,kqe,kqd,kqb,kqg,kqf];refine tj 12 (.pointer (some ⟨I,j+k,none⟩)) ?_;dsimp only[Act.put,kqh,kqe,kqd,kqb,kqg,kqf];refine tj 13 (.int .i64 (v:Int)) ?_;dsimp only[Act.put,kqh,kqe,kqd,kqb,kqg,kqf];refine tj 14 (.int .u64 (v:Int)) ?_;dsimp only[Act.put,kqh,kqe,kqd,kqb,kqg,kqf];refine tj 15 (.bool true) ?_;dsimp only[Act.put,kqh,kqe,kqd,kqb,kqg,kqf];refine tj 16 (.bool true) ?_;dsimp only[Act.put,kqh,kqe,kqd,kqb,kqg,kqf];refine tj 17 (.bool true) ?_;dsimp only[Act.put,kqh,kqe,kqd,kqb,kqg,kqf];refine kj4 (by kernel_rfl) ?_ _;obtain⟨m0,m1,m2,m3,m4,m5,m6⟩:=Eq;clear D a Y x1 x2 T Z x5 B;go_simp;go_wp2;go_ret2;exact⟨lm HE.out (by omega),Ka.trans ((H.out.trans ((kqk _ _).drew.trans (J.out.mono H.out.size))).mono Kk)⟩
    have hk2:(xk != 1)=true:=by rw[kqv];exact Kc
    have Kg:dK ws ⟨z,xs,xk,xt,O,r⟩=true:=eC Kc;have Kd:a8 ⟨z,xs,xk,xt,O,r⟩=false:=by unfold a8;show (xk==1&&O)=false;rw[show (xk==1)=false by rw[kqi];exact Kc];rfl
    have HY:=hid (E.out.2.2.2 Kg Kd);clear Kc Kg Kd E;go_wp2;go_roundw
    case rel=>exact⟨k+1,by omega,by go_num,HY.out.1,by rw[HY.out.2];exact y.alloc _,hB.alloc hz _⟩
    case measure=>simp[intOf];omega
   have HP:=hid (EE HS.out P.out (l:=l) (by rw[kqj];exact Kt.out) (by have:=Le.out;rwa [kq5 (by omega)] at this));rw[kq5 (by omega)] at y;obtain⟨A4,c4,rfl,Ll,Kq⟩:=kJ y;have Lm:=hid Kq;have Ln:=hid Ll;clear Kq y Ll;go_wp2;go_ret2;exact⟨⟨A4,c4,by rw[HP.out.1,HP.out.2];rfl,by rw[HP.out.2];exact Lm.out,by rw[HP.out.2];exact Ln.out⟩,Ka.trans (hB.mono Kk)⟩
 have HE:=hid (Df HS.out L);have Kw:=Ij L;clear L;rcases Kw with⟨g1,g2⟩|⟨⟨g1,g2⟩,⟨g3,g4⟩|⟨⟨g3,g4⟩,g5|⟨g5,g6⟩|⟨⟨g5,g6⟩,g7⟩⟩⟩
 all_goals
  go_enter func161,ntmps161;go_wp2_with fail;refine (aG A ws.length c w hm).mono ?_;rintro e w1 ⟨rfl,rfl⟩;rw[HI.out];go_wp2_with fail
  all_goals
   go_ret2;exact⟨lm HE.out (by omega),kqk _ _⟩
theorem sh{a b:List α}(ha:k<a.length)(hb:k<b.length)(h:a.take k=b.take k)(h1:a[k]=b[k]):a.take (k+1)=b.take (k+1):=by rw[kqp ha,kqp hb,h,h1]
theorem vS[DecidableEq α]{a b:List α}(hl:a.length=b.length)(h:a.take a.length=b.take a.length):decide (a=b)=true:=by rw[kzl,kq5 (by omega)] at h;rw[kqn];exact h
theorem zW[DecidableEq α]{a b:List α}(ha:k<a.length)(hb:k<b.length)(h1:a[k]≠b[k]):decide (a=b)=false:=by rw[kqc];rintro rfl;exact h1 rfl
theorem vf[DecidableEq α]{a b:List α}(h:a.length≠b.length):decide (a=b)=false:=by rw[kqc];rintro rfl;exact h rfl
def xB (w:World) (xs:List Nat) (e:Ending) (w':World):Prop:=∃g c,e=.returned (.slice (some ⟨g,0,none⟩) xs.length c)/\w'.ownsRow w.heap.size 53 1 (.slice (some ⟨g,0,none⟩) xs.length c) xs.length (xs.flatMap ag)/\Below w.heap.size w w'
theorem mG:(prog.info? 53).map (λi=>(i.zero,i.size,i.bytes))=some (some (.int .u64 0),1,8):=by kernel_rfl
theorem nD(ws:List Nat)(a v:Nat):(ws.set a v).flatMap ag=(ws.flatMap ag).set a (.int .u64 (v:Int)):=by
 have:=eI ag 1 bt ws a 0 (by omega) v (.int .u64 (v:Int)) (λy _=>rfl)
 simpa using this
theorem io(ws:List Nat):(ws.flatMap ag).length=ws.length:=by rw[cw ag 1 bt];omega
theorem sE(ws:List Nat)(k:Nat)(h:k<ws.length):(ws.flatMap ag)[k]? = some (.int .u64 (ws[k]:Int)):=by
 have:=iN ag 1 bt ws k 0 h (by omega)
 simpa [ag] using this
theorem fV{v:Value}(h:w.ownsRow H e sz v n xs)(hn:0<n):∃g c,v=.slice (some ⟨g,0,none⟩) n c:=by obtain⟨g,c,a,_⟩:=h.form hn;exact⟨g,c,a⟩
theorem gG{g c:Nat}(h:w.ownsRow H e sz (.slice (some ⟨g,0,none⟩) n c) n xs):H<=g:=by
 rcases h.2 with⟨a,_⟩|⟨g',cap',cur,a,hb,_⟩
 .simp at a
 simp only[Value.slice.injEq,Option.some.injEq,Addr.mk.injEq,and_true,true_and] at a;omega
theorem Ir(h:bh ws f s≠0):(iB ws f s).length=0:=by simp[iB,h]
theorem EY(ws:List Nat)(f s:Int):(iB ws f s).length<=2048:=by
 by_cases h:bh ws f s=0
 .obtain ⟨d,a,l,c,h4,b⟩:=cj h;rw[b];have hb:=mU d;have ha:=gQ a;have h6:=(bK (by omega) _ _ c (by omega) (by omega) (by omega)).1;have h7:=mt l s;omega
 rw[Ir h];omega
def Dn (l:List (Int × Int)) (a:Int) (k:Nat):Prop:=ic l a=ic (l.drop k) a
theorem CP{l:List (Int × Int)}(hk:k<l.length)(h:Dn l a k)(h1:l[k].1≠a):Dn l a (k+1):=by unfold Dn at h |-;rw[h,kx0 hk];simp[ic,h1]
theorem GZ{l:List (Int × Int)}(hk:k<l.length)(h:Dn l a k)(h1:l[k].1=a):ic l a=some l[k].2:=by unfold Dn at h;rw[h,kx0 hk];simp[ic,h1]
theorem DV{l:List (Int × Int)}(h:Dn l a l.length):ic l a=none:=by unfold Dn at h;rw[h,kkc];rfl
theorem fwTo_c(A:Option Addr)(l:List (Int × Int))(c n H:Nat)(a:Int)(w:World)(hn:l.length=n)(hm:n<=1000000)(hr:RdM w H A l)(hH:H<=w.heap.size):
 Calls prog 284 #[.slice A n c,.int .i64 a] w λe w'=>e=.returned (.tuple #[.int .i64 ((ic l a).getD 0),.bool (ic l a).isSome])/\Below w.heap.size w w':=by
 subst hn;have E:=hid (hr.more hH);have B:Hid (∀k (h:k<l.length),Dn l a k->l[k].1=a->ic l a=some l[k].2):=hid λk h C F=>GZ h C F;have s:Hid (Dn l a l.length->ic l a=none):=hid DV;obtain⟨q,t⟩:=xq (ic l a);rw[t] at B s |-;clear hr hH t;go_enter func284,ntmps284;go_wp2_with fail;go_loopw [10] (λi wr=>∃k:Nat,k<=l.length/\i=.int .i64 k/\Hid (Dn l a k)/\Below w.heap.size w wr) (λi _=>l.length-(intOf i).toNat)
 case atStart=>exact⟨0,kqy _,rfl,rfl,kqk _ _⟩
 obtain⟨k,hk,rfl,o,m⟩:=hrel;have z:=m.size;by_cases g:k<l.length
 .obtain ⟨b,off,rfl,hb,v,y⟩:=RdM.at_ (Rd.below E.out m) g;have r:=hid (λh=>CP g o.out h);have f:=hid (λh=>B.out k g o.out h);obtain⟨x,u⟩:=xq (l[k]);rw[u] at v y r f;obtain⟨p,x2⟩:=x;dsimp only at v y r f;have hk1:(k:Int)<(l.length:Int):=by omega
  clear u;by_cases d:p=a
  .have D:(p==a)=true:=by rw[kqw];exact d
   have j:=hid (f.out d);clear d;go_wp2;go_ret2;exact⟨by rw[j.out];rfl,m.alloc z _⟩
  have D:(p==a)=false:=by rw[kqi];exact d
  have j:=hid (r.out d);clear d;go_wp2;go_roundw
  case rel=>exact⟨k+1,by omega,by go_num,j.out,m.alloc z _⟩
  case measure=>simp[intOf];omega
 have j:=hid (s.out (by have:=o.out;rwa [show k=l.length by omega] at this));go_wp2;go_ret2;exact⟨by rw[j.out];rfl,m⟩
theorem Bf{E:List En}(hk:k<E.length):ak ws (E.take (k+1))=if 0<=E[k].a/\E[k].a<(ws.length:Int) then (ak ws (E.take k)).set E[k].a.toNat E[k].v else ak ws (E.take k):=by rw[kqp hk,eK];simp only[ak,ax]
theorem tT(E:List En):∀(ws:List Nat),(∀x∈ws,x<18446744073709551616)->(∀e∈E,e.v<18446744073709551616)->∀x∈ak ws E,x<18446744073709551616:=by
 induction E with
 | nil=>intro ws h _;exact h
 | cons e E ih =>
  intro ws h b;simp only[ak];refine ih _ ?_ (λx a=>b x (by simp[a]));split
  .intro x a;rcases List.mem_or_eq_of_mem_set a with c|c
   .exact h x c
   have:=b e (by simp);omega
  exact h
def iC (x:Nat) (m:Bool):Bk:={ aq x with mark:=m }
def gt (x:Nat) (m:Bool):Nat:=if aD x=true then jg (iC x m) else 0
def oK (x:Nat) (m:Bool):Int:=if aD x=true then jc (iC x m) else 50
theorem pi(x:Nat)(m:Bool)(w:World)(hx:x<18446744073709551616):Calls prog 205 #[.int .u64 (x:Int),.bool m] w λe w'=>e=.returned (.tuple #[.int .u64 (gt x m:Nat),.int .i64 (oK x m)])/\Below w.heap.size w w':=by
 have a:=hid (nB x w hx);have d:(aq x).val=.agg #[.int .i64 0,.int .i64 ((x/65536%65536:Nat):Int),.int .i64 ((x%256:Nat):Int),.int .i64 ((x/512%128:Nat):Int),.bool (x/256%2==1),.int .u64 0]:=rfl;have c:(iC x m).val=.agg #[.int .i64 0,.int .i64 ((x/65536%65536:Nat):Int),.int .i64 ((x%256:Nat):Int),.int .i64 ((x/512%128:Nat):Int),.bool m,.int .u64 0]:=rfl;cases f:aD x
 .have g:=hid (show gt x m=0/\oK x m=50 by simp[gt,oK,f]);rw[(ml f).1,(ml f).2] at a;unfold mA Bk.val at a;dsimp only at a;clear f d c hx;go_enter func205,ntmps205;go_wp2_with fail;refine a.out.mono ?_;rintro e s ⟨rfl,b⟩;go_wp2;go_ret2;exact⟨by rw[g.out.1,g.out.2];rfl,b.alloc b.size _⟩
 have g:=hid (show gt x m=jg (iC x m)/\oK x m=jc (iC x m) by simp[gt,oK,f]);have i:=hid (λW=>qE (iC x m) W);rw[(l7 f).1,(l7 f).2,d] at a;rw[c] at i;obtain⟨S,n⟩:∃S,((x/65536%65536:Nat):Int)=S:=⟨_,rfl⟩;obtain⟨K,p⟩:∃K,((x%256:Nat):Int)=K:=⟨_,rfl⟩;obtain⟨T,k⟩:∃T,((x/512%128:Nat):Int)=T:=⟨_,rfl⟩;obtain⟨M,r⟩:=xq ((x/256%2==1));obtain⟨V,l⟩:=xq (jg (iC x m));obtain⟨R,h⟩:=xq (jc (iC x m));rw[n,p,k,r] at a;rw[n,p,k,l,h] at i;rw[l,h] at g;clear f d c hx n p k r l h;go_enter func205,ntmps205;go_wp2_with fail;refine a.out.mono ?_;rintro e s ⟨rfl,b⟩;have o:=b.size;go_wp2_with fail;refine (i.out _).mono ?_;rintro e w2 ⟨rfl,q⟩;have j:=(b.alloc o (.cells #[.int .i64 0,.int .i64 S,.int .i64 K,.int .i64 T,.bool m,.int .u64 0] 55)).trans (q.mono (by simp;omega));go_wp2;go_ret2;exact⟨by rw[g.out.1,g.out.2];rfl,j⟩
end Go.Proofs.YtpcajamacpbjcaaGreat
