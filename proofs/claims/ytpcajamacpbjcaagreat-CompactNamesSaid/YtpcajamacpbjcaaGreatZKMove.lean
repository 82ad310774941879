/- Texts laid together: Fwr SameP Same2 To Put HdM. -/
import Derived.Test.YtpcajamacpbjcaaGreatZKHeap
import Derived.Test.YtpcajamacpbjcaaGreatZKHead
import Derived.Laws.OwnMore
set_option maxHeartbeats 16000000
set_option maxRecDepth 100000
set_option linter.all false
namespace Go.Proofs.YtpcajamacpbjcaaGreat
open Lib (hid)
open Go.RowKit
variable {a f s:Int}{l:List Bk}{ws:List Nat}{xs:List Value}{H k n sz:Nat}{α:Type}{e:TypeId}{w:World}
open Go.Proofs.Tryz
def oT (m:Int × Int):List Value:=[.int .i64 m.1,.int .i64 m.2]
theorem rV(m:Int × Int):(oT m).length=2:=rfl
def RdM (w:World) (B:Nat) (A:Option Addr) (l:List (Int × Int)):Prop:=Rd w B A (l.flatMap oT)
theorem RdM.at_{B:Nat}{A:Option Addr}{l:List (Int × Int)}(h:RdM w B A l)(hk:k<l.length):
 ∃b a,A=some ⟨b,a,none⟩/\b<B/\w.cell? ⟨b,a+k*2,none⟩=some (.int .i64 l[k].1)/\w.cell? ⟨b,a+k*2+1,none⟩=some (.int .i64 l[k].2):=by obtain⟨b,a,e,d,c⟩:=Rd.at_flat rV h (by omega) hk;exact⟨b,a,e,d,c 0 (by omega),c 1 (by omega)⟩
theorem BP:(prog.info? 275).map (λi=>(i.zero,i.size,i.bytes))=some (some (.agg #[.int .i64 0,.int .i64 0]),2,16):=by kernel_rfl
def vT (ws:List Nat) (f s:Int) (e:Ending) (w':World):Prop:=∃A c,e=.returned (.tuple #[.slice A (ia ws f s).length c,.int .i64 (aW ws f s)])/\RdM w' w'.heap.size A (ia ws f s)/\(ia ws f s).length<=c
theorem lh{r:Int}{w':World}(hr:aW ws f s=r)(h0:r≠0):vT ws f s (.returned (.tuple #[.slice none 0 0,.int .i64 r])) w':=by
 subst hr;have:ia ws f s=[]:=by simp[ia,h0]
 exact⟨none,0,by rw[this];rfl,by rw[this];exact Rd.nil_,by rw[this];simp⟩
theorem GC(h:fJ n f s=true):
 ((f%2 != 0)=true/\(f.tmod 2 != 0)=true) \/
 ((
  f%2 != 0)=false/\(f.tmod 2 != 0)=false)/\(((s%2 != 0)=true/\(s.tmod 2 != 0)=true) \/
  ((s%2 != 0)=false/\(s.tmod 2 != 0)=false)/\(s<128\/128<=s/\f<s\/(128<=s/\s<=f)/\(n:Int)<f)):=by
 rw[kO] at h;rw[pu,pu];by_cases c:f%2=0
 .have a:(f%2 != 0)=false:=by rw[kqq];exact c
  rw[a];refine .inr ⟨⟨rfl,rfl⟩,?_⟩;by_cases d:s%2=0
  .have b:(s%2 != 0)=false:=by rw[kqq];exact d
   rw[b];refine .inr ⟨⟨rfl,rfl⟩,?_⟩;omega
  have b:(s%2 != 0)=true:=by rw[kqu];exact d
  rw[b];exact .inl ⟨rfl,rfl⟩
 have a:(f%2 != 0)=true:=by rw[kqu];exact c
 rw[a];exact .inl ⟨rfl,rfl⟩
theorem As(h:ap (ws.length:Int)=false):aW ws f s=8:=by unfold aW;rw[fg,h];rfl
theorem zt(h:ap (ws.length:Int)=true)(h2:fJ ws.length f s=true):aW ws f s=2:=by unfold aW;rw[fg,h,h2];rfl
theorem vL(h:ap (ws.length:Int)=true)(h2:fJ ws.length f s=false)(h3:blocks ws f.toNat=none):aW ws f s=50:=by unfold aW lq;rw[fg,h,h2,h3];rfl
theorem Bm(h:ap (ws.length:Int)=true)(h2:fJ ws.length f s=false)(h3:blocks ws f.toNat=some l)(h4:bL ws l s=false):aW ws f s=50:=by rw[iy (by rw[fg];exact h) h2 h3,h4];rfl
theorem Cg(h:ap (ws.length:Int)=true)(h2:fJ ws.length f s=false)(h3:blocks ws f.toNat=some l)(h4:bL ws l s=true):aW ws f s=0/\ia ws f s=az l s:=by
 have a:aW ws f s=0:=by rw[iy (by rw[fg];exact h) h2 h3,if_pos h4]
 exact⟨a,by unfold ia;rw[if_pos a,h3]⟩
theorem pk(h:fJ n f s=false):eY n f=false:=by have:=gC h;simp only[eY,kzl,kqh,kqq];omega
theorem Fe(hst:eC l s=0)(hk:k<l.length)(h:bL ws (l.take k) s=true):
 (du ws l[k]=false->bL ws l s=false) /\
 (du ws l[k]=true->aV l[k]=true->l[k].next≠bu l[k] (aI (l.take k) s)->bL ws l s=false) /\
 (du ws l[k]=true->aV l[k]=true->l[k].next=bu l[k] (aI (l.take k) s)->bL ws (l.take (k+1)) s=true/\az (l.take (k+1)) s=az (l.take k) s++[(l[k].at_,((bu l[k] (aI (l.take k) s):Nat):Int))]) /\
 (du ws l[k]=true->aV l[k]=false->bL ws (l.take (k+1)) s=true/\az (l.take (k+1)) s=az (l.take k) s):=by
 obtain⟨i,g,j,_⟩:=eO hst;have hb:=kn i (kxr hk) g j;have c:=oI (ws:=ws) hk s;have f:=vU hk s;rw[h,kzx] at c;have e:aV l[k]=true->bu l[k] (aI (l.take k) s)=(aI (l.take k) s).toNat:=λa=>by unfold bu;rw[if_pos a]
 refine⟨λb=>?_,λb a d=>?_,λb a d=>?_,λb a=>?_⟩
 .refine rm (k:=k+1) ?_;rw[c,b];rfl
 .refine rm (k:=k+1) ?_;rw[e a] at d;rw[c,b,a,show ((l[k].next:Int)==aI (l.take k) s)=false by rw[kqj];omega];rfl
 .rw[e a] at d |-;rw[c,f,b,a,show ((l[k].next:Int)==aI (l.take k) s)=true by rw[kqw];omega,kkg (by omega)];exact⟨rfl,rfl⟩
 rw[c,f,b,a];exact⟨rfl,by simp⟩
theorem lV(l:List Bk):∀s,(az l s).length<=l.length:=by
 induction l with
 | nil=>intro s;exact kqa _
 | cons b l ih =>
  intro s;simp only[az];split
  .have:=ih (s+b.size);simp only[kq1];omega
  have:=ih s;simp only[kq1];omega
theorem pE(A:Option Addr)(ws:List Nat)(c n:Nat)(f s:Int)(w:World)(hn:ws.length=n)(hm:n<=9223372036854775807)(hf : -9223372036854775808<=f/\f<=9223372036854775807)(hs : -9223372036854775808<=s/\s<=9223372036854775807)(hr:RdW w w.heap.size A ws)(ho:∀x∈ws,x<18446744073709551616):
 Calls prog 161 #[.slice A n c,.int .i64 f,.int .i64 s] w λe w'=>vT ws f s e w'/\Below w.heap.size w w':=by
 subst hn;have HR:=hid hr;have HO:=hid ho;obtain⟨f1,f2⟩:=hf;obtain⟨s1,s2⟩:=hs;clear hr ho;cases hs:ap (ws.length:Int)
 .have HI:=hid (cn hs);have HE:=hid (As (f:=f) (s:=s) hs);clear hs;go_enter func161,ntmps161;go_wp2_with fail;refine (aB A ws.length c w hm).mono ?_;rintro e w1 ⟨rfl,rfl⟩;rw[HI.out];go_wp2;go_ret2;exact⟨lh HE.out (by omega),kqk _ _⟩
 have HI:=hid (bG hs);obtain⟨Lj,hb2,Z⟩:=gJ ws hs;have HS:=hid hs;clear hs Z;cases M:fJ ws.length f s
 .have P:=hid M;obtain⟨a1,a2,a3,a4,a5⟩:=gC M;obtain⟨i,rfl⟩:=kqz (show 0<=f by omega);obtain⟨u,rfl⟩:=kqz (show 0<=s by omega);have Lf:=hid (λl (h:blocks ws i=some l)=>cy HS.out (pk P.out) (l:=l) (by rw[kqi];exact h));have La:=hid (λ(h:blocks ws i=none)=>eN HS.out (pk P.out) (by rw[kqi];exact h));have Lc:=hid (λl (h:blocks ws i=some l)=>kC (ws:=ws) (i:=i) (l:=l) (by omega) h (by omega) (by omega) (by omega) (s:=(u:Int)) (by omega) (by omega) (by omega));have Li:=hid (λl (h:blocks ws i=some l)=>(cd (ws:=ws) (by omega) i l h (by omega) (by omega) (by omega)).1);have Kw:=hid (λl (h:blocks ws i=some l) k (hk:k<l.length) h1=>jK (ws:=ws) h (by omega) (k:=k) hk h1);have Jd:=hid (lR A ws c ws.length (i:Int) w rfl hm HR.out HO.out);unfold pp at Jd;have e1:((i:Int)%2 != 0)=false:=by rw[kqq];exact a1
  have e2:((u:Int)%2 != 0)=false:=by rw[kqq];exact a2
  have d1:decide ((u:Int)<128)=false:=by rw[kqh];omega
  have d2:decide ((i:Int)<(u:Int))=false:=by rw[kqh];omega
  have d2n:decide (i<u)=false:=by rw[kqh];omega
  have d3:decide ((ws.length:Int)<(i:Int))=false:=by rw[kqh];omega
  have d3n:decide (ws.length<i)=false:=by rw[kqh];omega
  have u0:(0:Int)<=(u:Int):=by omega
  have i0':(0:Int)<=(i:Int):=by omega
  clear M a1 a2;cases Q:blocks ws i with
  | none =>have HE:=hid (vL HS.out P.out (by rw[kqi];exact Q));rw[La.out Q] at Jd;obtain⟨l,hl⟩:∃l,aJ ws (i:Int)=l:=⟨_,rfl⟩;rw[hl] at Jd;clear Q hl;go_enter func161,ntmps161;go_wp2_with fail;refine (aB A ws.length c w hm).mono ?_;rintro e w1 ⟨rfl,rfl⟩;rw[HI.out];go_wp2_with fail;refine Jd.out.mono ?_;rintro e w1 ⟨⟨A1,c1,rfl,-,-⟩,Lg⟩;go_wp2;go_ret2;exact⟨lh HE.out (by omega),Lg⟩
  | some l =>
   have Jz:=hid Q;have Jp:=hid (Lc.out l Q);have hlen:=Li.out l Q;obtain⟨g1,g2⟩:=Lf.out l Q;rw[g1,g2] at Jd;have Ka:=hid (λ(A2:Option Addr) (c2:Nat) (W:World) (h:RdB W W.heap.size A2 l)=>uu A2 l c2 l.length (u:Int) W rfl (by omega) h (by omega));unfold AO at Ka;rw[Jp.out] at Ka;clear Q g1 g2;obtain⟨i2,hi,Ke,Ki,Jj⟩:=kzw BP;have HJ:=hid hi;have Lh:=hid Ke;have Kz:=hid Ki;have Ld:=hid Jj;clear hi Ke Ki Jj;go_enter func161,ntmps161;go_wp2_with fail;refine (aB A ws.length c w hm).mono ?_;rintro e w1 ⟨rfl,rfl⟩;rw[HI.out];go_wp2_with fail;refine Jd.out.mono ?_;rintro e w2 ⟨⟨A1,c1,rfl,Kd,-⟩,Kk⟩;have Jj:=Kk.size;have Jw:=hid Kd;clear Kd;go_wp2_with fail;refine (Ka.out A1 c1 _ Jw.out).mono ?_;rintro e w3 ⟨⟨A2,c2,rfl,Kj,-⟩,Jv⟩;have Z:=Kk.trans (Jv.mono Jj);have Jo:=Z.size;have Ko:=hid Kj;have Km:=hid (Jw.out.up Jv Jv.size);have Ji:=hid (HR.out.up Z Jo);clear Kj Jw;obtain⟨pl,Jq⟩:∃pl,ja l (u:Int)=pl:=⟨_,rfl⟩;rw[Jq] at Ko |-;have Jt:pl.length=l.length:=by rw[<-Jq];simp[ja,Jp.out,cR]
   have Kh:=hid (λk (hk:k<l.length)=>uB Jp.out hk);rw[Jq] at Kh;rw[Jt];clear Jq Jt;go_wp2_with fail;go_loopw [13,61] (λv i wr=>∃k:Nat,k<=l.length/\i=.int .i64 k/\Hid (bL ws (l.take k) (u:Int)=true)/\wr.ownsRow w3.heap.size 275 2 v (az (l.take k) (u:Int)).length ((az (l.take k) (u:Int)).flatMap oT)/\Below w3.heap.size w3 wr) (λ_ i _=>l.length-(intOf i).toNat)
   case atStart=>exact⟨0,kqy _,rfl,rfl,kza _ _ _ _,kqk _ _⟩
   obtain⟨k,hk,rfl,Kq,y,hB⟩:=hrel;have hz:=hB.size;by_cases Jm:k<l.length
   .obtain ⟨b,off,rfl,hbw,q0,q1,q2,q3,q4,q5⟩:=RdB.at_ (Km.out.below hB) Jm;obtain⟨Kv,Ks,Lb⟩:=Kh.out k Jm;obtain⟨I,j,rfl,Kn,p0⟩:=RdI.at_ (Ko.out.below hB) Kv;rw[Ks] at p0;have C:=hid (Fe (ws:=ws) Jp.out Jm Kq.out);have Jl:=hid (Kw.out l Jz.out k Jm);have Js:=hid (λh=>Bm HS.out P.out (l:=l) (by rw[kqi];exact Jz.out) h);have Kc:=lV (l.take k) (u:Int);rw[kq3] at Kc;obtain⟨m,Jk⟩:∃m,az (l.take k) (u:Int)=m:=⟨_,rfl⟩;rw[Jk] at y C Kc;obtain⟨v,hv⟩:∃v,bu l[k] (aI (l.take k) (u:Int))=v:=⟨_,rfl⟩;rw[hv] at Lb p0 C;obtain⟨x,hx⟩:=xq (l[k]);rw[hx] at q0 q1 q2 q3 q4 q5 C Jl;obtain⟨z,xs,xk,xt,O,r⟩:=x;dsimp only at q0 q1 q2 q3 q4 q5 Jl;have hlm:(k:Int)<(l.length:Int):=by omega
    have hml2:m.length<=2048:=by omega
    have hv2:(v:Int)<=2048:=by omega
    have hv0:(0:Int)<=(v:Int):=by omega
    have hk0:(0:Int)<=(k:Int):=by omega
    have hwv:IntKind.u64.wrap (v:Int)=(v:Int):=kz0 _ (by omega);clear hx Jk Kc hv Ks;by_cases Jc:xk=1
    .obtain ⟨t0,t8⟩:=Jl.out Jc;obtain⟨t,rfl⟩:=kqz t0;subst Jc;have HT:=hid (λW (h:RdW W W.heap.size A ws)=>zh A ws c ws.length t z xs 1 O r W rfl (by omega) Lj (by omega) h HO.out);have Jf:du ws ⟨z,xs,1,(t:Int),O,r⟩=cK ws ⟨z,xs,1,(t:Int),O,r⟩:=rfl;have Jg:aV ⟨z,xs,1,(t:Int),O,r⟩=O:=rfl;rw[Jf,Jg] at C;obtain⟨q,hq⟩:∃q,cK ws ⟨z,xs,1,(t:Int),O,r⟩=q:=⟨_,rfl⟩;rw[hq] at C HT;clear hq Jf Jg Jl;cases q
     .have HE:=hid (Js.out (C.out.1 rfl));clear C;go_wp2_with fail;obtain⟨D,F⟩:∃D,wr.alloc (.cells #[.int .i64 z,.int .i64 xs,.int .i64 1,.int .i64 (t:Int),.bool O,.int .u64 (r:Int)] 55)=D:=⟨_,rfl⟩;have N:=Bx.new wr 55 #[.int .i64 z,.int .i64 xs,.int .i64 1,.int .i64 (t:Int),.bool O,.int .u64 (r:Int)];have o:=hB.alloc hz (.cells #[.int .i64 z,.int .i64 xs,.int .i64 1,.int .i64 (t:Int),.bool O,.int .u64 (r:Int)] 55);have d:=y.alloc (.cells #[.int .i64 z,.int .i64 xs,.int .i64 1,.int .i64 (t:Int),.bool O,.int .u64 (r:Int)] 55);have G:(wr.alloc (.cells #[.int .i64 z,.int .i64 xs,.int .i64 1,.int .i64 (t:Int),.bool O,.int .u64 (r:Int)] 55)).heap.size=wr.heap.size+1:=by simp
      have B:=(kzh wr (.cells #[.int .i64 z,.int .i64 xs,.int .i64 1,.int .i64 (t:Int),.bool O,.int .u64 (r:Int)] 55) ⟨I,j+k,none⟩ (by dsimp only;omega)).trans p0;rw[F] at N o d G B |-;clear F;have Ja:=hid (Ji.out.up o o.size);have H:=hid o;have L:=hid d;have BX:=hid N;obtain⟨x0,T,R,Y,U,x5,-,g⟩:=N.c6;have Jb:I<D.heap.size:=by omega
      clear o d N y q0 q1 q2 q3 q4 q5 p0;refine kxm (S:=λX:World=>X.cell? ⟨wr.heap.size,0,none⟩=some (.int .i64 z)/\X.cell? ⟨wr.heap.size,1,none⟩=some (.int .i64 xs)/\X.cell? ⟨wr.heap.size,2,none⟩=some (.int .i64 1)/\X.cell? ⟨wr.heap.size,3,none⟩=some (.int .i64 (t:Int))/\X.cell? ⟨wr.heap.size,4,none⟩=some (.bool O)/\X.cell? ⟨wr.heap.size,5,none⟩=some (.int .u64 (r:Int))/\X.cell? ⟨I,j+k,none⟩=some (.int .i64 (v:Int))) (by kernel_rfl) ⟨x0,T,R,Y,U,x5,B⟩ (λE=>?_);show wpAnyH _ _ _ _ _ 18 #[false,false,false,false,false,false,false,false,false,false,false,false,false,false,false,false,false,false] _ _;refine tj 0 (.slice A ws.length c) ?_;dsimp only[Act.put,kqg,kqd,kqc,kqb,kqf,kqe];refine tj 1 (.agg #[.int .i64 z,.int .i64 xs,.int .i64 1,.int .i64 (t:Int),.bool O,.int .u64 (r:Int)]) ?_
      dsimp only[Act.put,kqg,kqd,kqc,kqb,kqf,kqe];refine kz3 (rs:=[2]) (by kernel_rfl) (by simp) ?_;refine AllReadyH.cons rfl (λK hK=>?_) AllReadyH.nil;go_simp;refine (HT.out D.drew (show RdW D.drew D.drew.heap.size A ws from Ja.out)).mono ?_;rintro e w5 ⟨rfl,a⟩;go_simp;have J:=hid a;refine hK.out _ _ ⟨(a.cell (p:=⟨wr.heap.size,0,none⟩) g).trans x0,(a.cell (p:=⟨wr.heap.size,1,none⟩) g).trans T,(a.cell (p:=⟨wr.heap.size,2,none⟩) g).trans R,(a.cell (p:=⟨wr.heap.size,3,none⟩) g).trans Y,(a.cell (p:=⟨wr.heap.size,4,none⟩) g).trans U,(a.cell (p:=⟨wr.heap.size,5,none⟩) g).trans x5,(a.cell (p:=⟨I,j+k,none⟩) Jb).trans B⟩ (λV=>?_);clear hK K;refine tj 3 (.bool true) ?_;dsimp only[Act.put,kqg,kqd,kqc,kqb,kqf,kqe];refine tj 4 (.bool true) ?_;dsimp only[Act.put,kqg,kqd,kqc,kqb,kqf,kqe];refine sk 5 ?_;dsimp only[Act.put,kqg,kqd,kqc,kqb,kqf,kqe];refine sk 6 ?_;dsimp only[Act.put,kqg,kqd,kqc,kqb,kqf,kqe];refine sk 7 ?_;dsimp only[Act.put,kqg,kqd,kqc,kqb,kqf,kqe];refine sk 8 ?_;dsimp only[Act.put,kqg,kqd,kqc,kqb,kqf,kqe];refine sk 9 ?_;dsimp only[Act.put,kqg,kqd,kqc,kqb,kqf,kqe];refine sk 10 ?_;dsimp only[Act.put,kqg,kqd,kqc,kqb,kqf,kqe];refine sk 11 ?_;dsimp only[Act.put,kqg,kqd,kqc,kqb,kqf,kqe];refine sk 12 ?_;dsimp only[Act.put,kqg,kqd,kqc,kqb,kqf,kqe];refine sk 13 ?_
      dsimp only[Act.put,kqg,kqd,kqc,kqb,kqf,kqe];refine sk 14 ?_;dsimp only[Act.put,kqg,kqd,kqc,kqb,kqf,kqe];refine sk 15 ?_;dsimp only[Act.put,kqg,kqd,kqc,kqb,kqf,kqe];refine sk 16 ?_;dsimp only[Act.put,kqg,kqd,kqc,kqb,kqf,kqe];refine tj 17 (.bool true) ?_;dsimp only[Act.put,kqg,kqd,kqc,kqb,kqf,kqe];refine kjw (by kernel_rfl) ?_ _;obtain⟨m0,m1,m2,m3,m4,m5,m6⟩:=V;clear E a x0 T R Y U x5 B;go_simp;go_wp2;go_ret2;exact⟨lh HE.out (by omega),Z.trans ((H.out.trans ((kqk _ _).drew.trans (J.out.mono H.out.size))).mono Jo)⟩
     cases O
     .have HY:=hid (C.out.2.2.2 rfl rfl);clear C;go_wp2_with fail;obtain⟨D,F⟩:∃D,wr.alloc (.cells #[.int .i64 z,.int .i64 xs,.int .i64 1,.int .i64 (t:Int),.bool false,.int .u64 (r:Int)] 55)=D:=⟨_,rfl⟩;have N:=Bx.new wr 55 #[.int .i64 z,.int .i64 xs,.int .i64 1,.int .i64 (t:Int),.bool false,.int .u64 (r:Int)];have o:=hB.alloc hz (.cells #[.int .i64 z,.int .i64 xs,.int .i64 1,.int .i64 (t:Int),.bool false,.int .u64 (r:Int)] 55);have d:=y.alloc (.cells #[.int .i64 z,.int .i64 xs,.int .i64 1,.int .i64 (t:Int),.bool false,.int .u64 (r:Int)] 55);have G:(wr.alloc (.cells #[.int .i64 z,.int .i64 xs,.int .i64 1,.int .i64 (t:Int),.bool false,.int .u64 (r:Int)] 55)).heap.size=wr.heap.size+1:=by simp
      have B:=(kzh wr (.cells #[.int .i64 z,.int .i64 xs,.int .i64 1,.int .i64 (t:Int),.bool false,.int .u64 (r:Int)] 55) ⟨I,j+k,none⟩ (by dsimp only;omega)).trans p0;rw[F] at N o d G B |-;clear F;have Ja:=hid (Ji.out.up o o.size);have H:=hid o;have L:=hid d;have BX:=hid N;obtain⟨x0,T,R,Y,U,x5,-,g⟩:=N.c6;have Jb:I<D.heap.size:=by omega
      clear o d N y q0 q1 q2 q3 q4 q5 p0;refine kxm (S:=λX:World=>X.cell? ⟨wr.heap.size,0,none⟩=some (.int .i64 z)/\X.cell? ⟨wr.heap.size,1,none⟩=some (.int .i64 xs)/\X.cell? ⟨wr.heap.size,2,none⟩=some (.int .i64 1)/\X.cell? ⟨wr.heap.size,3,none⟩=some (.int .i64 (t:Int))/\X.cell? ⟨wr.heap.size,4,none⟩=some (.bool false)/\X.cell? ⟨wr.heap.size,5,none⟩=some (.int .u64 (r:Int))/\X.cell? ⟨I,j+k,none⟩=some (.int .i64 (v:Int))) (by kernel_rfl) ⟨x0,T,R,Y,U,x5,B⟩ (λE=>?_);show wpAnyH _ _ _ _ _ 18 #[false,false,false,false,false,false,false,false,false,false,false,false,false,false,false,false,false,false] _ _;refine tj 0 (.slice A ws.length c) ?_;dsimp only[Act.put,kqg,kqd,kqc,kqb,kqf,kqe];refine tj 1 (.agg #[.int .i64 z,.int .i64 xs,.int .i64 1,.int .i64 (t:Int),.bool false,.int .u64 (r:Int)]) ?_
      dsimp only[Act.put,kqg,kqd,kqc,kqb,kqf,kqe];refine kz3 (rs:=[2]) (by kernel_rfl) (by simp) ?_;refine AllReadyH.cons rfl (λK hK=>?_) AllReadyH.nil;go_simp;refine (HT.out D.drew (show RdW D.drew D.drew.heap.size A ws from Ja.out)).mono ?_;rintro e w5 ⟨rfl,a⟩;go_simp;have J:=hid a;refine hK.out _ _ ⟨(a.cell (p:=⟨wr.heap.size,0,none⟩) g).trans x0,(a.cell (p:=⟨wr.heap.size,1,none⟩) g).trans T,(a.cell (p:=⟨wr.heap.size,2,none⟩) g).trans R,(a.cell (p:=⟨wr.heap.size,3,none⟩) g).trans Y,(a.cell (p:=⟨wr.heap.size,4,none⟩) g).trans U,(a.cell (p:=⟨wr.heap.size,5,none⟩) g).trans x5,(a.cell (p:=⟨I,j+k,none⟩) Jb).trans B⟩ (λV=>?_);clear hK K;refine tj 3 (.bool false) ?_;dsimp only[Act.put,kqg,kqd,kqc,kqb,kqf,kqe];refine tj 4 (.bool false) ?_;dsimp only[Act.put,kqg,kqd,kqc,kqb,kqf,kqe];refine tj 5 (.pointer (some ⟨wr.heap.size,4,none⟩)) ?_;dsimp only[Act.put,kqg,kqd,kqc,kqb,kqf,kqe];refine tj 6 (.bool false) ?_;dsimp only[Act.put,kqg,kqd,kqc,kqb,kqf,kqe];refine tj 7 (.bool false) ?_;dsimp only[Act.put,kqg,kqd,kqc,kqb,kqf,kqe];refine sk 8 ?_;dsimp only[Act.put,kqg,kqd,kqc,kqb,kqf,kqe];refine sk 9 ?_;dsimp only[Act.put,kqg,kqd,kqc,kqb,kqf,kqe];refine sk 10 ?_;dsimp only[Act.put,kqg,kqd,kqc,kqb,kqf,kqe];refine sk 11 ?_;dsimp only[Act.put,kqg,kqd,kqc,kqb,kqf,kqe]
      refine sk 12 ?_;dsimp only[Act.put,kqg,kqd,kqc,kqb,kqf,kqe];refine sk 13 ?_;dsimp only[Act.put,kqg,kqd,kqc,kqb,kqf,kqe];refine sk 14 ?_;dsimp only[Act.put,kqg,kqd,kqc,kqb,kqf,kqe];refine sk 15 ?_;dsimp only[Act.put,kqg,kqd,kqc,kqb,kqf,kqe];refine tj 16 (.bool false) ?_;dsimp only[Act.put,kqg,kqd,kqc,kqb,kqf,kqe];refine tj 17 (.bool false) ?_;dsimp only[Act.put,kqg,kqd,kqc,kqb,kqf,kqe];refine kjw (by kernel_rfl) ?_ _;obtain⟨m0,m1,m2,m3,m4,m5,m6⟩:=V;clear E a x0 T R Y U x5 B;go_simp;go_wp2;go_roundw
      case rel=>exact⟨k+1,by omega,by go_num,HY.out.1,by rw[HY.out.2];exact ak (show (D.drew).ownsRow _ _ _ _ _ _ from L.out) J.out (kqa _),H.out.trans ((kqk _ _).drew.trans (J.out.mono H.out.size))⟩
      case measure=>simp[intOf];omega
     by_cases Jr:r=v
     .have Kx:((r:Int) != (v:Int))=false:=by rw[kqq];omega
      have Ky:=hid (sL y);have HY:=hid (C.out.2.2.1 rfl rfl Jr);clear C Jr;go_wp2_with fail;obtain⟨D,F⟩:∃D,wr.alloc (.cells #[.int .i64 z,.int .i64 xs,.int .i64 1,.int .i64 (t:Int),.bool true,.int .u64 (r:Int)] 55)=D:=⟨_,rfl⟩;have N:=Bx.new wr 55 #[.int .i64 z,.int .i64 xs,.int .i64 1,.int .i64 (t:Int),.bool true,.int .u64 (r:Int)];have o:=hB.alloc hz (.cells #[.int .i64 z,.int .i64 xs,.int .i64 1,.int .i64 (t:Int),.bool true,.int .u64 (r:Int)] 55);have d:=y.alloc (.cells #[.int .i64 z,.int .i64 xs,.int .i64 1,.int .i64 (t:Int),.bool true,.int .u64 (r:Int)] 55);have G:(wr.alloc (.cells #[.int .i64 z,.int .i64 xs,.int .i64 1,.int .i64 (t:Int),.bool true,.int .u64 (r:Int)] 55)).heap.size=wr.heap.size+1:=by simp
      have B:=(kzh wr (.cells #[.int .i64 z,.int .i64 xs,.int .i64 1,.int .i64 (t:Int),.bool true,.int .u64 (r:Int)] 55) ⟨I,j+k,none⟩ (by dsimp only;omega)).trans p0;rw[F] at N o d G B |-;clear F;have Ja:=hid (Ji.out.up o o.size);have H:=hid o;have L:=hid d;have BX:=hid N;obtain⟨x0,T,R,Y,U,x5,-,g⟩:=N.c6;have Jb:I<D.heap.size:=by omega
      clear o d N y q0 q1 q2 q3 q4 q5 p0;refine kxm (S:=λX:World=>X.cell? ⟨wr.heap.size,0,none⟩=some (.int .i64 z)/\X.cell? ⟨wr.heap.size,1,none⟩=some (.int .i64 xs)/\X.cell? ⟨wr.heap.size,2,none⟩=some (.int .i64 1)/\X.cell? ⟨wr.heap.size,3,none⟩=some (.int .i64 (t:Int))/\X.cell? ⟨wr.heap.size,4,none⟩=some (.bool true)/\X.cell? ⟨wr.heap.size,5,none⟩=some (.int .u64 (r:Int))/\X.cell? ⟨I,j+k,none⟩=some (.int .i64 (v:Int))) (by kernel_rfl) ⟨x0,T,R,Y,U,x5,B⟩ (λE=>?_);show wpAnyH _ _ _ _ _ 18 #[false,false,false,false,false,false,false,false,false,false,false,false,false,false,false,false,false,false] _ _;refine tj 0 (.slice A ws.length c) ?_;dsimp only[Act.put,kqg,kqd,kqc,kqb,kqf,kqe];refine tj 1 (.agg #[.int .i64 z,.int .i64 xs,.int .i64 1,.int .i64 (t:Int),.bool true,.int .u64 (r:Int)]) ?_
      dsimp only[Act.put,kqg,kqd,kqc,kqb,kqf,kqe];refine kz3 (rs:=[2]) (by kernel_rfl) (by simp) ?_;refine AllReadyH.cons rfl (λK hK=>?_) AllReadyH.nil;go_simp;refine (HT.out D.drew (show RdW D.drew D.drew.heap.size A ws from Ja.out)).mono ?_;rintro e w5 ⟨rfl,a⟩;go_simp;have J:=hid a;refine hK.out _ _ ⟨(a.cell (p:=⟨wr.heap.size,0,none⟩) g).trans x0,(a.cell (p:=⟨wr.heap.size,1,none⟩) g).trans T,(a.cell (p:=⟨wr.heap.size,2,none⟩) g).trans R,(a.cell (p:=⟨wr.heap.size,3,none⟩) g).trans Y,(a.cell (p:=⟨wr.heap.size,4,none⟩) g).trans U,(a.cell (p:=⟨wr.heap.size,5,none⟩) g).trans x5,(a.cell (p:=⟨I,j+k,none⟩) Jb).trans B⟩ (λV=>?_);clear hK K;refine tj 3 (.bool false) ?_;dsimp only[Act.put,kqg,kqd,kqc,kqb,kqf,kqe];refine tj 4 (.bool false) ?_;dsimp only[Act.put,kqg,kqd,kqc,kqb,kqf,kqe];refine tj 5 (.pointer (some ⟨wr.heap.size,4,none⟩)) ?_;dsimp only[Act.put,kqg,kqd,kqc,kqb,kqf,kqe];refine tj 6 (.bool true) ?_;dsimp only[Act.put,kqg,kqd,kqc,kqb,kqf,kqe];refine tj 7 (.bool true) ?_;dsimp only[Act.put,kqg,kqd,kqc,kqb,kqf,kqe];refine tj 8 (.pointer (some ⟨wr.heap.size,5,none⟩)) ?_;dsimp only[Act.put,kqg,kqd,kqc,kqb,kqf,kqe];refine tj 9 (.int .u64 (r:Int)) ?_;dsimp only[Act.put,kqg,kqd,kqc,kqb,kqf,kqe];refine tj 10 (.slice (some ⟨I,j,none⟩) l.length c2) ?_;dsimp only[Act.put,kqg,kqd,kqc,kqb,kqf,kqe];refine tj 11 (.int .i64 (k:Int)) ?_
      dsimp only[Act.put,kqg,kqd,kqc,kqb,kqf,kqe];refine tj 12 (.pointer (some ⟨I,j+k,none⟩)) ?_;dsimp only[Act.put,kqg,kqd,kqc,kqb,kqf,kqe];refine tj 13 (.int .i64 (v:Int)) ?_;dsimp only[Act.put,kqg,kqd,kqc,kqb,kqf,kqe];refine tj 14 (.int .u64 (v:Int)) ?_;dsimp only[Act.put,kqg,kqd,kqc,kqb,kqf,kqe];refine tj 15 (.bool false) ?_;dsimp only[Act.put,kqg,kqd,kqc,kqb,kqf,kqe];refine tj 16 (.bool false) ?_;dsimp only[Act.put,kqg,kqd,kqc,kqb,kqf,kqe];refine tj 17 (.bool false) ?_;dsimp only[Act.put,kqg,kqd,kqc,kqb,kqf,kqe];refine kjw (by kernel_rfl) ?_ _;obtain⟨m0,m1,m2,m3,m4,m5,m6⟩:=V;clear E a x0 T R Y U x5 B;go_simp;go_wp2_with fail;have Jh:=H.out.trans ((kqk _ _).drew.trans (J.out.mono H.out.size));have Je:=ak (show (D.drew).ownsRow _ _ _ _ _ _ from L.out) J.out (kqa _);have Le:=Jh.size;have Kl:=bD L.out Kn;have Kg:some wr.heap.size≠Value.ownBlock u13:=Ky.out;have hg5:wr.heap.size<w5.heap.size:=by have:=J.out.size;have:D.drew.heap.size=D.heap.size:=rfl;omega
      have hp5:I<w5.heap.size:=by omega
      have Ku:m.length+1<=maxLen:=by unfold maxLen;omega
      have Jk:(m.length+1)*16<=140737488355328:=by omega
      have Kr:=hid Jh;clear Jh m1 m2 m3 m4 m5
      first
       | (go_region_held3 (λX:World=>X.cell? ⟨wr.heap.size,0,none⟩=some (.int .i64 z)/\X.cell? ⟨I,j+k,none⟩=some (.int .i64 (v:Int)))
        (first | go_keep | (
         go_split_ands
         refine⟨?_,?_⟩
         . (rw[Eq.cell_far _ (by simp;omega) Kg];assumption)
         (rw[Eq.cell_far _ (by simp;omega) Kl];assumption)))
        ((refine step_append_lies _ (by rfl) _ _ _ (by rfl) w3.heap.size 275 i2 _ 2 16 underlying223 HJ.out Lh.out Kz.out Ld.out rfl (by omega) u13 m.length (m.flatMap oT) (by rfl) ((show (w5.drew).ownsRow _ _ _ _ _ _ from Je).alloc _) ⟨w5.heap.size,0,none⟩ 1 1 [.int .i64 z,.int .i64 (v:Int)] (by rfl) (by rfl) (World.news_of_block (cs:=#[.int .i64 z,.int .i64 (v:Int)]) (t:=275) (fr:=(0,0)) (heap_alloc_new w5.drew _)) (by simp[Value.oneCell']) (by omega) Ku Jk (by simp;omega) (w5.heap.size+1) (by simp) ?_;intro gg cap w6 Jy Eq hat hlt6)))
       | fail
      go_wp2;go_roundw
      case rel=>exact⟨k+1,by omega,by go_num,HY.out.1,by rw[HY.out.2,kqs,cP];exact Jy,aO (w:=w3) (wr:=w5.drew) (Kr.out.trans (kqk _ _).drew) Le (show (w5.drew).ownsRow _ _ _ _ _ _ from Je) Eq⟩
      case measure=>simp[intOf];omega
     have Kx:((r:Int) != (v:Int))=true:=by rw[kqu];omega
     have HE:=hid (Js.out (C.out.2.1 rfl rfl Jr));clear C Jr;go_wp2_with fail;obtain⟨D,F⟩:∃D,wr.alloc (.cells #[.int .i64 z,.int .i64 xs,.int .i64 1,.int .i64 (t:Int),.bool true,.int .u64 (r:Int)] 55)=D:=⟨_,rfl⟩;have N:=Bx.new wr 55 #[.int .i64 z,.int .i64 xs,.int .i64 1,.int .i64 (t:Int),.bool true,.int .u64 (r:Int)];have o:=hB.alloc hz (.cells #[.int .i64 z,.int .i64 xs,.int .i64 1,.int .i64 (t:Int),.bool true,.int .u64 (r:Int)] 55);have d:=y.alloc (.cells #[.int .i64 z,.int .i64 xs,.int .i64 1,.int .i64 (t:Int),.bool true,.int .u64 (r:Int)] 55);have G:(wr.alloc (.cells #[.int .i64 z,.int .i64 xs,.int .i64 1,.int .i64 (t:Int),.bool true,.int .u64 (r:Int)] 55)).heap.size=wr.heap.size+1:=by simp
     have B:=(kzh wr (.cells #[.int .i64 z,.int .i64 xs,.int .i64 1,.int .i64 (t:Int),.bool true,.int .u64 (r:Int)] 55) ⟨I,j+k,none⟩ (by dsimp only;omega)).trans p0;rw[F] at N o d G B |-;clear F;have Ja:=hid (Ji.out.up o o.size);have H:=hid o;have L:=hid d;have BX:=hid N;obtain⟨x0,T,R,Y,U,x5,-,g⟩:=N.c6;have Jb:I<D.heap.size:=by omega
     clear o d N y q0 q1 q2 q3 q4 q5 p0;refine kxm (S:=λX:World=>X.cell? ⟨wr.heap.size,0,none⟩=some (.int .i64 z)/\X.cell? ⟨wr.heap.size,1,none⟩=some (.int .i64 xs)/\X.cell? ⟨wr.heap.size,2,none⟩=some (.int .i64 1)/\X.cell? ⟨wr.heap.size,3,none⟩=some (.int .i64 (t:Int))/\X.cell? ⟨wr.heap.size,4,none⟩=some (.bool true)/\X.cell? ⟨wr.heap.size,5,none⟩=some (.int .u64 (r:Int))/\X.cell? ⟨I,j+k,none⟩=some (.int .i64 (v:Int))) (by kernel_rfl) ⟨x0,T,R,Y,U,x5,B⟩ (λE=>?_);show wpAnyH _ _ _ _ _ 18 #[false,false,false,false,false,false,false,false,false,false,false,false,false,false,false,false,false,false] _ _;refine tj 0 (.slice A ws.length c) ?_;dsimp only[Act.put,kqg,kqd,kqc,kqb,kqf,kqe];refine tj 1 (.agg #[.int .i64 z,.int .i64 xs,.int .i64 1,.int .i64 (t:Int),.bool true,.int .u64 (r:Int)]) ?_
     dsimp only[Act.put,kqg,kqd,kqc,kqb,kqf,kqe];refine kz3 (rs:=[2]) (by kernel_rfl) (by simp) ?_;refine AllReadyH.cons rfl (λK hK=>?_) AllReadyH.nil;go_simp;refine (HT.out D.drew (show RdW D.drew D.drew.heap.size A ws from Ja.out)).mono ?_;rintro e w5 ⟨rfl,a⟩;go_simp;have J:=hid a;refine hK.out _ _ ⟨(a.cell (p:=⟨wr.heap.size,0,none⟩) g).trans x0,(a.cell (p:=⟨wr.heap.size,1,none⟩) g).trans T,(a.cell (p:=⟨wr.heap.size,2,none⟩) g).trans R,(a.cell (p:=⟨wr.heap.size,3,none⟩) g).trans Y,(a.cell (p:=⟨wr.heap.size,4,none⟩) g).trans U,(a.cell (p:=⟨wr.heap.size,5,none⟩) g).trans x5,(a.cell (p:=⟨I,j+k,none⟩) Jb).trans B⟩ (λV=>?_);clear hK K;refine tj 3 (.bool false) ?_;dsimp only[Act.put,kqg,kqd,kqc,kqb,kqf,kqe];refine tj 4 (.bool false) ?_;dsimp only[Act.put,kqg,kqd,kqc,kqb,kqf,kqe];refine tj 5 (.pointer (some ⟨wr.heap.size,4,none⟩)) ?_;dsimp only[Act.put,kqg,kqd,kqc,kqb,kqf,kqe];refine tj 6 (.bool true) ?_;dsimp only[Act.put,kqg,kqd,kqc,kqb,kqf,kqe];refine tj 7 (.bool true) ?_;dsimp only[Act.put,kqg,kqd,kqc,kqb,kqf,kqe];refine tj 8 (.pointer (some ⟨wr.heap.size,5,none⟩)) ?_;dsimp only[Act.put,kqg,kqd,kqc,kqb,kqf,kqe];refine tj 9 (.int .u64 (r:Int)) ?_;dsimp only[Act.put,kqg,kqd,kqc,kqb,kqf,kqe];refine tj 10 (.slice (some ⟨I,j,none⟩) l.length c2) ?_;dsimp only[Act.put,kqg,kqd,kqc,kqb,kqf,kqe];refine tj 11 (.int .i64 (k:Int)) ?_
     dsimp only[Act.put,kqg,kqd,kqc,kqb,kqf,kqe];refine tj 12 (.pointer (some ⟨I,j+k,none⟩)) ?_;dsimp only[Act.put,kqg,kqd,kqc,kqb,kqf,kqe];refine tj 13 (.int .i64 (v:Int)) ?_;dsimp only[Act.put,kqg,kqd,kqc,kqb,kqf,kqe];refine tj 14 (.int .u64 (v:Int)) ?_;dsimp only[Act.put,kqg,kqd,kqc,kqb,kqf,kqe];refine tj 15 (.bool true) ?_;dsimp only[Act.put,kqg,kqd,kqc,kqb,kqf,kqe];refine tj 16 (.bool true) ?_;dsimp only[Act.put,kqg,kqd,kqc,kqb,kqf,kqe];refine tj 17 (.bool true) ?_;dsimp only[Act.put,kqg,kqd,kqc,kqb,kqf,kqe];refine kjw (by kernel_rfl) ?_ _;obtain⟨m0,m1,m2,m3,m4,m5,m6⟩:=V;clear E a x0 T R Y U x5 B;go_simp;go_wp2;go_ret2;exact⟨lh HE.out (by omega),Z.trans ((H.out.trans ((kqk _ _).drew.trans (J.out.mono H.out.size))).mono Jo)⟩
    have hk2:(xk != 1)=true:=by rw[kqu];exact Jc
    have Jf:du ws ⟨z,xs,xk,xt,O,r⟩=true:=eD Jc;have Jg:aV ⟨z,xs,xk,xt,O,r⟩=false:=by unfold aV;show (xk==1&&O)=false;rw[show (xk==1)=false by rw[kqj];exact Jc];rfl
    have HY:=hid (C.out.2.2.2 Jf Jg);clear Jc Jf Jg C;go_wp2;go_roundw
    case rel=>exact⟨k+1,by omega,by go_num,HY.out.1,by rw[HY.out.2];exact y.alloc _,hB.alloc hz _⟩
    case measure=>simp[intOf];omega
   have HP:=hid (Cg HS.out P.out (l:=l) (by rw[kqi];exact Jz.out) (by have:=Kq.out;rwa [kq5 (by omega)] at this));rw[kq5 (by omega)] at y;obtain⟨A4,c4,rfl,Kf,Ju⟩:=kG y;have Kt:=hid Ju;have Kp:=hid Kf;clear Ju y Kf;go_wp2;go_ret2;exact⟨⟨A4,c4,by rw[HP.out.1,HP.out.2];rfl,by rw[HP.out.2];exact Kt.out,by rw[HP.out.2];exact Kp.out⟩,Z.trans (hB.mono Jo)⟩
 have HE:=hid (zt HS.out M);have Kb:=GC M;clear M;rcases Kb with⟨g1,g2⟩|⟨⟨g1,g2⟩,⟨g3,g4⟩|⟨⟨g3,g4⟩,g5|⟨g5,g6⟩|⟨⟨g5,g6⟩,g7⟩⟩⟩
 all_goals
  go_enter func161,ntmps161;go_wp2_with fail;refine (aB A ws.length c w hm).mono ?_;rintro e w1 ⟨rfl,rfl⟩;rw[HI.out];go_wp2_with fail
  all_goals
   go_ret2;exact⟨lh HE.out (by omega),kqk _ _⟩
theorem rF{a b:List α}(ha:k<a.length)(hb:k<b.length)(h:a.take k=b.take k)(h1:a[k]=b[k]):a.take (k+1)=b.take (k+1):=by rw[kqn ha,kqn hb,h,h1]
theorem um[DecidableEq α]{a b:List α}(hl:a.length=b.length)(h:a.take a.length=b.take a.length):decide (a=b)=true:=by rw[kzf,kq5 (by omega)] at h;rw[kq0];exact h
theorem zO[DecidableEq α]{a b:List α}(ha:k<a.length)(hb:k<b.length)(h1:a[k]≠b[k]):decide (a=b)=false:=by rw[kqh];rintro rfl;exact h1 rfl
theorem uC[DecidableEq α]{a b:List α}(h:a.length≠b.length):decide (a=b)=false:=by rw[kqh];rintro rfl;exact h rfl
theorem oM(A B:Option Addr)(a b:List En)(n m c d H:Nat)(w:World)(hn:a.length=n)(hm:b.length=m)(h1:n<=1000000)(ha:RdE w H A a)(hb:RdE w H B b)(hH:H<=w.heap.size):
 Calls prog 31 #[.slice A n c,.slice B m d] w λe w'=>e=.returned (.bool (decide (a=b)))/\Below w.heap.size w w':=by
 subst hn hm;have HA:=hid (ha.more hH);have W:=hid (hb.more hH);clear ha hb hH;by_cases s:a.length=b.length
 .have V:Hid (a.take a.length=b.take a.length->decide (a=b)=true):=hid λh=>um s h;have L:Hid (∀k (h:k<a.length) (I:k<b.length),a[k]≠b[k]->decide (a=b)=false):=hid λk h I Z=>zO h I Z;obtain⟨q,O⟩:=xq (decide (a=b));rw[O] at V L |-;have M:((a.length:Int) != (b.length:Int))=false:=by rw[kqq];omega
  have J:(a.length != b.length)=false:=by rw[kqq];exact s
  have Y:=hid s;clear O s;go_enter func31,ntmps31;go_wp2_with fail;go_loopw [5] (λi wr=>∃k:Nat,k<=a.length/\i=.int .i64 k/\Hid (a.take k=b.take k)/\Below w.heap.size w wr) (λi _=>a.length-(intOf i).toNat)
  case atStart=>exact⟨0,kqy _,rfl,rfl,kqk _ _⟩
  obtain⟨k,hk,rfl,S,F⟩:=hrel;by_cases l:k<a.length
  .have f:k<b.length:=by have:=Y.out;omega
   obtain⟨G,z,rfl,hg1,R,U⟩:=RdE.at_ (Rd.below HA.out F) l;obtain⟨v,E,rfl,hg2,P,T⟩:=RdE.at_ (Rd.below W.out F) f;have t:=hid (λh=>rF l f S.out h);have g:=hid (L.out k l f);obtain⟨x,N⟩:=xq (a[k]);obtain⟨y,Q⟩:=xq (b[k]);rw[N] at R U t g;rw[Q] at P T t g;obtain⟨p,u⟩:=x;obtain⟨o,D⟩:=y;dsimp only at R U P T;have hk1:(k:Int)<(a.length:Int):=by omega
   have hk2:(k:Int)<(b.length:Int):=by omega
   have hk0:(0:Int)<=(k:Int):=by omega
   clear N Q;have r:((p==o)=true/\((u:Int)==(D:Int))=true)\/(p==o)=false\/(p==o)=true/\((u:Int)==(D:Int))=false:=by cases p==o<;>cases ((u:Int)==(D:Int))<;>simp
   rcases r with⟨C,K⟩|C|⟨C,K⟩
   .have j:=hid (t.out (by rw[kqw] at C K;rw[C,Int.ofNat_inj.1 K]));go_wp2_with fail
    first
     | (go_region_held3 (λX:World=>X.cell? ⟨G,z+k*2,none⟩=some (.int .i64 p)/\X.cell? ⟨G,z+k*2+1,none⟩=some (.int .u64 (u:Int))/\X.cell? ⟨v,E+k*2,none⟩=some (.int .i64 o)/\X.cell? ⟨v,E+k*2+1,none⟩=some (.int .u64 (D:Int))) (go_keep) (fail))
     | fail
    go_wp2;go_roundw
    case rel=>exact⟨k+1,by omega,by go_num,j.out,F.drew⟩
    case measure=>simp[intOf];omega
   .have j:=hid (g.out (by intro h;injection h with h1 I;rw[h1] at C;simp at C));go_wp2_with fail
    first
     | (go_region_held3 (λX:World=>X.cell? ⟨G,z+k*2,none⟩=some (.int .i64 p)/\X.cell? ⟨G,z+k*2+1,none⟩=some (.int .u64 (u:Int))/\X.cell? ⟨v,E+k*2,none⟩=some (.int .i64 o)/\X.cell? ⟨v,E+k*2+1,none⟩=some (.int .u64 (D:Int))) (go_keep) (fail))
     | fail
    go_wp2;go_ret;exact⟨by rw[j.out];rfl,F.drew⟩
   have j:=hid (g.out (by intro h;injection h with h1 I;rw[I] at K;simp at K));go_wp2_with fail
   first
    | (go_region_held3 (λX:World=>X.cell? ⟨G,z+k*2,none⟩=some (.int .i64 p)/\X.cell? ⟨G,z+k*2+1,none⟩=some (.int .u64 (u:Int))/\X.cell? ⟨v,E+k*2,none⟩=some (.int .i64 o)/\X.cell? ⟨v,E+k*2+1,none⟩=some (.int .u64 (D:Int))) (go_keep) (fail))
    | fail
   go_wp2;go_ret;exact⟨by rw[j.out];rfl,F.drew⟩
  have j:=hid (V.out (by have:=S.out;rwa [show k=a.length by omega] at this));go_wp2;go_ret;exact⟨by rw[j.out];rfl,F⟩
 have L:=hid (uC s);have M:((a.length:Int) != (b.length:Int))=true:=by rw[kqu];omega
 have J:(a.length != b.length)=true:=by rw[kqu];exact s
 clear s;go_enter func31,ntmps31;go_wp2;go_ret;exact⟨by rw[L.out];rfl,kqk _ _⟩
def rM (w:World) (xs:List Nat) (e:Ending) (w':World):Prop:=∃g c,e=.returned (.slice (some ⟨g,0,none⟩) xs.length c)/\w'.ownsRow w.heap.size 53 1 (.slice (some ⟨g,0,none⟩) xs.length c) xs.length (xs.flatMap aa)/\Below w.heap.size w w'
theorem jI:(prog.info? 53).map (λi=>(i.zero,i.size,i.bytes))=some (some (.int .u64 0),1,8):=by kernel_rfl
theorem li(ws:List Nat)(a v:Nat):(ws.set a v).flatMap aa=(ws.flatMap aa).set a (.int .u64 (v:Int)):=by
 have:=eF aa 1 aX ws a 0 (by omega) v (.int .u64 (v:Int)) (λy _=>rfl)
 simpa using this
theorem fW(ws:List Nat):(ws.flatMap aa).length=ws.length:=by rw[ci aa 1 aX];omega
theorem mD(ws:List Nat)(k:Nat)(h:k<ws.length):(ws.flatMap aa)[k]? = some (.int .u64 (ws[k]:Int)):=by
 have:=jA aa 1 aX ws k 0 h (by omega)
 simpa [aa] using this
theorem fj{v:Value}(h:w.ownsRow H e sz v n xs)(hn:0<n):∃g c,v=.slice (some ⟨g,0,none⟩) n c:=by obtain⟨g,c,a,_⟩:=h.form hn;exact⟨g,c,a⟩
theorem fR{g c:Nat}(h:w.ownsRow H e sz (.slice (some ⟨g,0,none⟩) n c) n xs):H<=g:=by
 rcases h.2 with⟨a,_⟩|⟨g',cap',cur,a,hb,_⟩
 .simp at a
 simp only[Value.slice.injEq,Option.some.injEq,Addr.mk.injEq,and_true,true_and] at a;omega
theorem FC(h:aW ws f s≠0):(ia ws f s).length=0:=by simp[ia,h]
theorem BY(ws:List Nat)(f s:Int):(ia ws f s).length<=2048:=by
 by_cases h:aW ws f s=0
 .obtain ⟨b,a,l,c,h4,d⟩:=bQ h;rw[d];have hb:=mr b;have ha:=gC a;have h6:=(cd (by omega) _ _ c (by omega) (by omega) (by omega)).1;have h7:=lV l s;omega
 rw[FC h];omega
def BE (l:List (Int × Int)) (a:Int) (k:Nat):Prop:=gM l a=gM (l.drop k) a
theorem zC{l:List (Int × Int)}(hk:k<l.length)(h:BE l a k)(h1:l[k].1≠a):BE l a (k+1):=by unfold BE at h |-;rw[h,kxq hk];simp[gM,h1]
theorem Fs{l:List (Int × Int)}(hk:k<l.length)(h:BE l a k)(h1:l[k].1=a):gM l a=some l[k].2:=by unfold BE at h;rw[h,kxq hk];simp[gM,h1]
theorem DH{l:List (Int × Int)}(h:BE l a l.length):gM l a=none:=by unfold BE at h;rw[h,kj5];rfl
theorem fwTo_c(A:Option Addr)(l:List (Int × Int))(c n H:Nat)(a:Int)(w:World)(hn:l.length=n)(hm:n<=1000000)(hr:RdM w H A l)(hH:H<=w.heap.size):
 Calls prog 284 #[.slice A n c,.int .i64 a] w λe w'=>e=.returned (.tuple #[.int .i64 ((gM l a).getD 0),.bool (gM l a).isSome])/\Below w.heap.size w w':=by
 subst hn;have F:=hid (hr.more hH);have y:Hid (∀k (h:k<l.length),BE l a k->l[k].1=a->gM l a=some l[k].2):=hid λk h E D=>Fs h E D;have s:Hid (BE l a l.length->gM l a=none):=hid DH;obtain⟨q,t⟩:=xq (gM l a);rw[t] at y s |-;clear hr hH t;go_enter func284,ntmps284;go_wp2_with fail;go_loopw [10] (λi wr=>∃k:Nat,k<=l.length/\i=.int .i64 k/\Hid (BE l a k)/\Below w.heap.size w wr) (λi _=>l.length-(intOf i).toNat)
 case atStart=>exact⟨0,kqy _,rfl,rfl,kqk _ _⟩
 obtain⟨k,hk,rfl,r,m⟩:=hrel;have u:=m.size;by_cases f:k<l.length
 .obtain ⟨b,off,rfl,hb,z,B⟩:=RdM.at_ (Rd.below F.out m) f;have o:=hid (λh=>zC f r.out h);have g:=hid (λh=>y.out k f r.out h);obtain⟨x,v⟩:=xq (l[k]);rw[v] at z B o g;obtain⟨p,x2⟩:=x;dsimp only at z B o g;have hk1:(k:Int)<(l.length:Int):=by omega
  clear v;by_cases d:p=a
  .have C:(p==a)=true:=by rw[kqw];exact d
   have j:=hid (g.out d);clear d;go_wp2;go_ret2;exact⟨by rw[j.out];rfl,m.alloc u _⟩
  have C:(p==a)=false:=by rw[kqj];exact d
  have j:=hid (o.out d);clear d;go_wp2;go_roundw
  case rel=>exact⟨k+1,by omega,by go_num,j.out,m.alloc u _⟩
  case measure=>simp[intOf];omega
 have j:=hid (s.out (by have:=r.out;rwa [show k=l.length by omega] at this));go_wp2;go_ret2;exact⟨by rw[j.out];rfl,m⟩
theorem rk{E:List En}(hk:k<E.length):aj ws (E.take (k+1))=if 0<=E[k].a/\E[k].a<(ws.length:Int) then (aj ws (E.take k)).set E[k].a.toNat E[k].v else aj ws (E.take k):=by rw[kqn hk,eI];simp only[aj,av]
theorem si(E:List En):∀(ws:List Nat),(∀x∈ws,x<18446744073709551616)->(∀e∈E,e.v<18446744073709551616)->∀x∈aj ws E,x<18446744073709551616:=by
 induction E with
 | nil=>intro ws h _;exact h
 | cons e E ih =>
  intro ws h b;simp only[aj];refine ih _ ?_ (λx a=>b x (by simp[a]));split
  .intro x a;rcases List.mem_or_eq_of_mem_set a with c|c
   .exact h x c
   have:=b e (by simp);omega
  exact h
theorem FA(A B:Option Addr)(ws:List Nat)(E:List En)(c d n m H:Nat)(w:World)(hn:ws.length=n)(hm:E.length=m)(h0:0<n)(hn2:n<=1000000)(hm2:m<=1000000)(hr:RdW w H A ws)(he:RdE w H B E)(hH:H<=w.heap.size):
 Calls prog 17 #[.slice A n c,.slice B m d] w λe w'=>rM w (aj ws E) e w':=by
 subst hm;have HR:=hid (hr.more hH);have HE:=hid (he.more hH);have HN:=hid hn;have R:=hid (fW ws);have C:Hid (∀k,(aj ws (E.take k)).length=n):=hid λk=>by rw[av,hn]
 have U:Hid (∀k (h:k<E.length),aj ws (E.take (k+1))=if 0<=E[k].a/\E[k].a<(n:Int) then (aj ws (E.take k)).set E[k].a.toNat E[k].v else aj ws (E.take k)):=hid λk h=>by rw[rk h,hn]
 clear hr he hH hn;obtain⟨i0,Y,I,L,z⟩:=kzw jI;have HI:=hid Y;have O:=hid I;have P:=hid L;have N:=hid z;clear Y I L z;go_enter func17,ntmps17;go_wp2_with (at_builtin;refine bg _ (by rfl) _ _ 22 rfl w.heap.size 53 i0 _ 1 8 underlying22 HI.out O.out P.out N.out rfl (by decide) (.slice (some ⟨w.heap.size,0,none⟩) 0 0) 0 [] (by rfl) (ft w _ _ _ (kqa _)) w.heap.size A n _ (ws.flatMap aa) (by rfl) (by rw[R.out,HN.out];omega) (Rd.alloc HR.out (kqa _) _) (di mn _) (by unfold maxLen;omega) (by omega) (by simp) ?_;intro v1 wa j F;have y:=bU ((kqk w.heap.size w).alloc (kqa _) _) (by simp) (ft w w.heap.size 53 1 (kqa _)) F;simp only[kxd,kzv] at j;obtain⟨g,c1,rfl⟩:=fj j (by omega);have G:=hid j;have Q:=hid y;clear j y F);go_loopw [6] (λi wr=>∃k:Nat,k<=E.length/\i=.int .i64 k/\wr.ownsRow w.heap.size 53 1 (.slice (some ⟨g,0,none⟩) n c1) n ((aj ws (E.take k)).flatMap aa)/\Below w.heap.size w wr) (λi _=>E.length-(intOf i).toNat)
 case atStart=>exact⟨0,kqy _,rfl,G.out,Q.out⟩
 obtain⟨k,hk,rfl,f,K⟩:=hrel;have hz:=K.size;have S:=fR f;by_cases t:k<E.length
 .obtain ⟨b,J,rfl,hb,W,Z⟩:=RdE.at_ (Rd.below HE.out K) t;have q:=hid (U.out k t);obtain⟨x,V⟩:=xq (E[k]);rw[V] at W Z q;obtain⟨D,xv⟩:=x;dsimp only at W Z q;have hk1:(k:Int)<(E.length:Int):=by omega
  have hk0:(0:Int)<=(k:Int):=by omega
  have hbg:b≠g:=by omega
  have hgb:g≠b:=by omega
  clear V;by_cases l:0<=D/\D<(n:Int)
  .rw[if_pos l] at q;obtain⟨g1,g2⟩:=l;obtain⟨a,rfl⟩:=kqz g1;rw[kqi] at q;obtain⟨o,r⟩:=xq (aj ws (E.take k));have M:=C.out k;rw[r] at q f M;have c0:=(f.cellAt a (by omega)).trans (mD o a (by omega));have f0:=f.frozenAt a;obtain⟨u,hu⟩:∃u,((o[a]'(by omega):Nat):Int)=u:=⟨_,rfl⟩;rw[hu] at c0;have HO:=hid f;clear hu f r;go_wp2_with fail
   first
    | (go_region_held3 (λX:World=>X.cell? ⟨b,J+k*2,none⟩=some (.int .i64 (a:Int))/\X.cell? ⟨b,J+k*2+1,none⟩=some (.int .u64 (xv:Int))) (go_keep) (fail))
    | fail
   go_wp2;go_roundw
   case rel =>
    refine⟨k+1,by omega,by go_num,?_,K.drew.setCell (p:=⟨g,a,none⟩) S _⟩;rw[q.out,li];exact ((show (wr.drew).ownsRow _ _ _ _ _ _ from HO.out).stored a (.int .u64 (xv:Int))).1
   case measure=>simp[intOf];omega
  rw[if_neg l] at q;have s:D<0\/0<=D/\(n:Int)<=D:=by omega
  clear l;rcases s with h1|⟨h1,h2⟩
  all_goals
   go_wp2;go_roundw
   case rel=>exact⟨k+1,by omega,by go_num,by rw[q.out];exact f,K⟩
   case measure=>simp[intOf];omega
 rw[kq5 (by omega)] at f;have T:=C.out E.length;rw[kzf] at T;go_wp2;go_ret;exact⟨g,c1,by rw[T];rfl,by rw[T];exact f,K⟩
def il (x:Nat) (m:Bool):Bk:={ ar x with mark:=m }
def gb (x:Nat) (m:Bool):Nat:=if aM x=true then jn (il x m) else 0
def nK (x:Nat) (m:Bool):Int:=if aM x=true then kw (il x m) else 50
theorem oo(x:Nat)(m:Bool)(w:World)(hx:x<18446744073709551616):Calls prog 205 #[.int .u64 (x:Int),.bool m] w λe w'=>e=.returned (.tuple #[.int .u64 (gb x m:Nat),.int .i64 (nK x m)])/\Below w.heap.size w w':=by
 have a:=hid (mR x w hx);have d:(ar x).val=.agg #[.int .i64 0,.int .i64 ((x/65536%65536:Nat):Int),.int .i64 ((x%256:Nat):Int),.int .i64 ((x/512%128:Nat):Int),.bool (x/256%2==1),.int .u64 0]:=rfl;have b:(il x m).val=.agg #[.int .i64 0,.int .i64 ((x/65536%65536:Nat):Int),.int .i64 ((x%256:Nat):Int),.int .i64 ((x/512%128:Nat):Int),.bool m,.int .u64 0]:=rfl;cases f:aM x
 .have g:=hid (show gb x m=0/\nK x m=50 by simp[gb,nK,f]);rw[(oE f).1,(oE f).2] at a;unfold nE Bk.val at a;dsimp only at a;clear f d b hx;go_enter func205,ntmps205;go_wp2_with fail;refine a.out.mono ?_;rintro e s ⟨rfl,c⟩;go_wp2;go_ret2;exact⟨by rw[g.out.1,g.out.2];rfl,c.alloc c.size _⟩
 have g:=hid (show gb x m=jn (il x m)/\nK x m=kw (il x m) by simp[gb,nK,f]);have n:=hid (λW=>oL (il x m) W);rw[(nQ f).1,(nQ f).2,d] at a;rw[b] at n;obtain⟨S,k⟩:∃S,((x/65536%65536:Nat):Int)=S:=⟨_,rfl⟩;obtain⟨K,o⟩:∃K,((x%256:Nat):Int)=K:=⟨_,rfl⟩;obtain⟨T,h⟩:∃T,((x/512%128:Nat):Int)=T:=⟨_,rfl⟩;obtain⟨M,r⟩:=xq ((x/256%2==1));obtain⟨V,i⟩:=xq (jn (il x m));obtain⟨R,p⟩:=xq (kw (il x m));rw[k,o,h,r] at a;rw[k,o,h,i,p] at n;rw[i,p] at g;clear f d b hx k o h r i p;go_enter func205,ntmps205;go_wp2_with fail;refine a.out.mono ?_;rintro e s ⟨rfl,c⟩;have q:=c.size;go_wp2_with fail;refine (n.out _).mono ?_;rintro e w2 ⟨rfl,j⟩;have l:=(c.alloc q (.cells #[.int .i64 0,.int .i64 S,.int .i64 K,.int .i64 T,.bool m,.int .u64 0] 55)).trans (j.mono (by simp;omega));go_wp2;go_ret2;exact⟨by rw[g.out.1,g.out.2];rfl,l⟩
end Go.Proofs.YtpcajamacpbjcaaGreat
