/- Texts laid together: Fwr SameP Same2 To Put HdM. -/
import Derived.Test.YtpcajamacpbjcaaGreatZKHeap
import Derived.Test.YtpcajamacpbjcaaGreatZKHead
import Derived.Laws.OwnMore
set_option maxHeartbeats 16000000
set_option maxRecDepth 100000
set_option linter.all false
namespace Go.Proofs.YtpcajamacpbjcaaGreat
open Lib (hid)
open Go.RowKit
variable {a f s:Int}{l:List Bk}{ws:List Nat}{xs:List Value}{H k n sz:Nat}{α:Type}{e:TypeId}{w:World}
open Go.Proofs.Tryz
def qu (m:Int × Int):List Value:=[.int .i64 m.1,.int .i64 m.2]
theorem uO(m:Int × Int):(qu m).length=2:=rfl
def RdM (w:World) (B:Nat) (A:Option Addr) (l:List (Int × Int)):Prop:=Rd w B A (l.flatMap qu)
theorem RdM.at_{B:Nat}{A:Option Addr}{l:List (Int × Int)}(h:RdM w B A l)(hk:k<l.length):
 ∃b a,A=some ⟨b,a,none⟩/\b<B/\w.cell? ⟨b,a+k*2,none⟩=some (.int .i64 l[k].1)/\w.cell? ⟨b,a+k*2+1,none⟩=some (.int .i64 l[k].2):=by obtain⟨b,a,e,d,c⟩:=Rd.at_flat uO h (by omega) hk;exact⟨b,a,e,d,c 0 (by omega),c 1 (by omega)⟩
theorem F3:(prog.info? 275).map (λi=>(i.zero,i.size,i.bytes))=some (some (.agg #[.int .i64 0,.int .i64 0]),2,16):=by kernel_rfl
def xx (ws:List Nat) (f s:Int) (e:Ending) (w':World):Prop:=∃A c,e=.returned (.tuple #[.slice A (iH ws f s).length c,.int .i64 (bj ws f s)])/\RdM w' w'.heap.size A (iH ws f s)/\(iH ws f s).length<=c
theorem lQ{r:Int}{w':World}(hr:bj ws f s=r)(h0:r≠0):xx ws f s (.returned (.tuple #[.slice none 0 0,.int .i64 r])) w':=by
 subst hr;have:iH ws f s=[]:=by simp[iH,h0]
 exact⟨none,0,by rw[this];rfl,by rw[this];exact Rd.nil_,by rw[this];simp⟩
theorem IN(h:gq n f s=true):
 ((f%2 != 0)=true/\(f.tmod 2 != 0)=true) \/
 ((
  f%2 != 0)=false/\(f.tmod 2 != 0)=false)/\(((s%2 != 0)=true/\(s.tmod 2 != 0)=true) \/
  ((s%2 != 0)=false/\(s.tmod 2 != 0)=false)/\(s<128\/128<=s/\f<s\/(128<=s/\s<=f)/\(n:Int)<f)):=by
 rw[lw] at h;rw[rt,rt];by_cases c:f%2=0
 .have b:(f%2 != 0)=false:=by rw[kqr];exact c
  rw[b];refine .inr ⟨⟨rfl,rfl⟩,?_⟩;by_cases d:s%2=0
  .have a:(s%2 != 0)=false:=by rw[kqr];exact d
   rw[a];refine .inr ⟨⟨rfl,rfl⟩,?_⟩;omega
  have a:(s%2 != 0)=true:=by rw[kqv];exact d
  rw[a];exact .inl ⟨rfl,rfl⟩
 have b:(f%2 != 0)=true:=by rw[kqv];exact c
 rw[b];exact .inl ⟨rfl,rfl⟩
theorem Ds(h:ak (ws.length:Int)=false):bj ws f s=8:=by unfold bj;rw[fK,h];rfl
theorem Bw(h:ak (ws.length:Int)=true)(h2:gq ws.length f s=true):bj ws f s=2:=by unfold bj;rw[fK,h,h2];rfl
theorem xL(h:ak (ws.length:Int)=true)(h2:gq ws.length f s=false)(h3:blocks ws f.toNat=none):bj ws f s=50:=by unfold bj mm;rw[fK,h,h2,h3];rfl
theorem Al(h:ak (ws.length:Int)=true)(h2:gq ws.length f s=false)(h3:blocks ws f.toNat=some l)(h4:cn ws l s=false):bj ws f s=50:=by rw[jc (by rw[fK];exact h) h2 h3,h4];rfl
theorem Gq(h:ak (ws.length:Int)=true)(h2:gq ws.length f s=false)(h3:blocks ws f.toNat=some l)(h4:cn ws l s=true):bj ws f s=0/\iH ws f s=az l s:=by
 have a:bj ws f s=0:=by rw[jc (by rw[fK];exact h) h2 h3,if_pos h4]
 exact⟨a,by unfold iH;rw[if_pos a,h3]⟩
theorem qX(h:gq n f s=false):fm n f=false:=by have:=ij h;simp only[fm,kzs,kqh,kqr];omega
theorem Iq(hst:eJ l s=0)(hk:k<l.length)(h:cn ws (l.take k) s=true):
 (dW ws l[k]=false->cn ws l s=false) /\
 (dW ws l[k]=true->aR l[k]=true->l[k].next≠bG l[k] (aO (l.take k) s)->cn ws l s=false) /\
 (dW ws l[k]=true->aR l[k]=true->l[k].next=bG l[k] (aO (l.take k) s)->cn ws (l.take (k+1)) s=true/\az (l.take (k+1)) s=az (l.take k) s++[(l[k].at_,((bG l[k] (aO (l.take k) s):Nat):Int))]) /\
 (dW ws l[k]=true->aR l[k]=false->cn ws (l.take (k+1)) s=true/\az (l.take (k+1)) s=az (l.take k) s):=by
 obtain⟨j,i,g,_⟩:=fd hst;have hb:=lJ j (kjv hk) i g;have c:=pP (ws:=ws) hk s;have e:=zm hk s;rw[h,kzq] at c;have f:aR l[k]=true->bG l[k] (aO (l.take k) s)=(aO (l.take k) s).toNat:=λa=>by unfold bG;rw[if_pos a]
 refine⟨λb=>?_,λb a d=>?_,λb a d=>?_,λb a=>?_⟩
 .refine sC (k:=k+1) ?_;rw[c,b];rfl
 .refine sC (k:=k+1) ?_;rw[f a] at d;rw[c,b,a,show ((l[k].next:Int)==aO (l.take k) s)=false by rw[kqi];omega];rfl
 .rw[f a] at d |-;rw[c,e,b,a,show ((l[k].next:Int)==aO (l.take k) s)=true by rw[kqx];omega,kj0 (by omega)];exact⟨rfl,rfl⟩
 rw[c,e,b,a];exact⟨rfl,by simp⟩
theorem mH(l:List Bk):∀s,(az l s).length<=l.length:=by
 induction l with
 | nil=>intro s;exact kqa _
 | cons b l ih =>
  intro s;simp only[az];split
  .have:=ih (s+b.size);simp only[kq2];omega
  have:=ih s;simp only[kq2];omega
theorem rg(A:Option Addr)(ws:List Nat)(c n:Nat)(f s:Int)(w:World)(hn:ws.length=n)(hm:n<=9223372036854775807)(hf : -9223372036854775808<=f/\f<=9223372036854775807)(hs : -9223372036854775808<=s/\s<=9223372036854775807)(hr:RdW w w.heap.size A ws)(ho:∀x∈ws,x<18446744073709551616):
 Calls prog 161 #[.slice A n c,.int .i64 f,.int .i64 s] w λe w'=>xx ws f s e w'/\Below w.heap.size w w':=by
 subst hn;have HR:=hid hr;have HO:=hid ho;obtain⟨f1,f2⟩:=hf;obtain⟨s1,s2⟩:=hs;clear hr ho;cases hs:ak (ws.length:Int)
 .have HI:=hid (bL hs);have HE:=hid (Ds (f:=f) (s:=s) hs);clear hs;go_enter func161,ntmps161;go_wp2_with fail;refine (aB A ws.length c w hm).mono ?_;rintro e w1 ⟨rfl,rfl⟩;rw[HI.out];go_wp2;go_ret2;exact⟨lQ HE.out (by omega),kqk _ _⟩
 have HI:=hid (aV hs);obtain⟨Nc,hb2,Kx⟩:=ir ws hs;have HS:=hid hs;clear hs Kx;cases L:gq ws.length f s
 .have Q:=hid L;obtain⟨a1,a2,a3,a4,a5⟩:=ij L;obtain⟨i,rfl⟩:=kq1 (show 0<=f by omega);obtain⟨u,rfl⟩:=kq1 (show 0<=s by omega);have Na:=hid (λl (h:blocks ws i=some l)=>cV HS.out (qX Q.out) (l:=l) (by rw[kqj];exact h));have Mq:=hid (λ(h:blocks ws i=none)=>eY HS.out (qX Q.out) (by rw[kqj];exact h));have Nb:=hid (λl (h:blocks ws i=some l)=>lD (ws:=ws) (i:=i) (l:=l) (by omega) h (by omega) (by omega) (by omega) (s:=(u:Int)) (by omega) (by omega) (by omega));have Mx:=hid (λl (h:blocks ws i=some l)=>(bK (ws:=ws) (by omega) i l h (by omega) (by omega) (by omega)).1);have Nf:=hid (λl (h:blocks ws i=some l) k (hk:k<l.length) h1=>iX (ws:=ws) h (by omega) (k:=k) hk h1);have Ky:=hid (mV A ws c ws.length (i:Int) w rfl hm HR.out HO.out);unfold rx at Ky;have e1:((i:Int)%2 != 0)=false:=by rw[kqr];exact a1
  have e2:((u:Int)%2 != 0)=false:=by rw[kqr];exact a2
  have d1:decide ((u:Int)<128)=false:=by rw[kqh];omega
  have d2:decide ((i:Int)<(u:Int))=false:=by rw[kqh];omega
  have d2n:decide (i<u)=false:=by rw[kqh];omega
  have d3:decide ((ws.length:Int)<(i:Int))=false:=by rw[kqh];omega
  have d3n:decide (ws.length<i)=false:=by rw[kqh];omega
  have u0:(0:Int)<=(u:Int):=by omega
  have i0':(0:Int)<=(i:Int):=by omega
  clear L a1 a2;cases P:blocks ws i with
  | none =>have HE:=hid (xL HS.out Q.out (by rw[kqj];exact P));rw[Mq.out P] at Ky;obtain⟨l,hl⟩:∃l,aT ws (i:Int)=l:=⟨_,rfl⟩;rw[hl] at Ky;clear P hl;go_enter func161,ntmps161;go_wp2_with fail;refine (aB A ws.length c w hm).mono ?_;rintro e w1 ⟨rfl,rfl⟩;rw[HI.out];go_wp2_with fail;refine Ky.out.mono ?_;rintro e w1 ⟨⟨A1,c1,rfl,-,-⟩,Mv⟩;go_wp2;go_ret2;exact⟨lQ HE.out (by omega),Mv⟩
  | some l =>
   have Lr:=hid P;have Lm:=hid (Nb.out l P);have hlen:=Mx.out l P;obtain⟨g1,g2⟩:=Na.out l P;rw[g1,g2] at Ky;have Lw:=hid (λ(A2:Option Addr) (c2:Nat) (W:World) (h:RdB W W.heap.size A2 l)=>wO A2 l c2 l.length (u:Int) W rfl (by omega) h (by omega));unfold Cj at Lw;rw[Lm.out] at Lw;clear P g1 g2;obtain⟨i2,hi,Ly,Mn,Lj⟩:=kzr F3;have HJ:=hid hi;have Mu:=hid Ly;have My:=hid Mn;have Mr:=hid Lj;clear hi Ly Mn Lj;go_enter func161,ntmps161;go_wp2_with fail;refine (aB A ws.length c w hm).mono ?_;rintro e w1 ⟨rfl,rfl⟩;rw[HI.out];go_wp2_with fail;refine Ky.out.mono ?_;rintro e w2 ⟨⟨A1,c1,rfl,Md,-⟩,Lz⟩;have Lj:=Lz.size;have Ls:=hid Md;clear Md;go_wp2_with fail;refine (Lw.out A1 c1 _ Ls.out).mono ?_;rintro e w3 ⟨⟨A2,c2,rfl,Lx,-⟩,Lv⟩;have Kx:=Lz.trans (Lv.mono Lj);have Lh:=Kx.size;have Ma:=hid Lx;have Mf:=hid (Ls.out.up Lv Lv.size);have Li:=hid (HR.out.up Kx Lh);clear Lx Ls;obtain⟨pl,Lk⟩:∃pl,kf l (u:Int)=pl:=⟨_,rfl⟩;rw[Lk] at Ma |-;have Lo:pl.length=l.length:=by rw[<-Lk];simp[kf,Lm.out,dF]
   have Mi:=hid (λk (hk:k<l.length)=>wM Lm.out hk);rw[Lk] at Mi;rw[Lo];clear Lk Lo;go_wp2_with fail;go_loopw [13,61] (λv i wr=>∃k:Nat,k<=l.length/\i=.int .i64 k/\Hid (cn ws (l.take k) (u:Int)=true)/\wr.ownsRow w3.heap.size 275 2 v (az (l.take k) (u:Int)).length ((az (l.take k) (u:Int)).flatMap qu)/\Below w3.heap.size w3 wr) (λ_ i _=>l.length-(intOf i).toNat)
   case atStart=>exact⟨0,kqz _,rfl,rfl,kq6 _ _ _ _,kqk _ _⟩
   obtain⟨k,hk,rfl,Mm,y,hB⟩:=hrel;have hz:=hB.size;by_cases Le:k<l.length
   .obtain ⟨b,off,rfl,hbw,q0,q1,q2,q3,q4,q5⟩:=RdB.at_ (Mf.out.below hB) Le;obtain⟨Mp,Mo,Ms⟩:=Mi.out k Le;obtain⟨I,j,rfl,Ml,p0⟩:=RdI.at_ (Ma.out.below hB) Mp;rw[Mo] at p0;have C:=hid (Iq (ws:=ws) Lm.out Le Mm.out);have Ll:=hid (Nf.out l Lr.out k Le);have Lp:=hid (λh=>Al HS.out Q.out (l:=l) (by rw[kqj];exact Lr.out) h);have Lq:=mH (l.take k) (u:Int);rw[kq4] at Lq;obtain⟨m,Lg⟩:∃m,az (l.take k) (u:Int)=m:=⟨_,rfl⟩;rw[Lg] at y C Lq;obtain⟨v,hv⟩:∃v,bG l[k] (aO (l.take k) (u:Int))=v:=⟨_,rfl⟩;rw[hv] at Ms p0 C;obtain⟨x,hx⟩:=xq (l[k]);rw[hx] at q0 q1 q2 q3 q4 q5 C Ll;obtain⟨z,xs,xk,xt,O,r⟩:=x;dsimp only at q0 q1 q2 q3 q4 q5 Ll;have hlm:(k:Int)<(l.length:Int):=by omega
    have hml2:m.length<=2048:=by omega
    have hv2:(v:Int)<=2048:=by omega
    have hv0:(0:Int)<=(v:Int):=by omega
    have hk0:(0:Int)<=(k:Int):=by omega
    have hwv:IntKind.u64.wrap (v:Int)=(v:Int):=kzw _ (by omega);clear hx Lg Lq hv Mo;by_cases Kz:xk=1
    .obtain ⟨t0,t8⟩:=Ll.out Kz;obtain⟨t,rfl⟩:=kq1 t0;subst Kz;have HT:=hid (λW (h:RdW W W.heap.size A ws)=>zJ A ws c ws.length t z xs 1 O r W rfl (by omega) Nc (by omega) h HO.out);have Ld:dW ws ⟨z,xs,1,(t:Int),O,r⟩=dj ws ⟨z,xs,1,(t:Int),O,r⟩:=rfl;have Lc:aR ⟨z,xs,1,(t:Int),O,r⟩=O:=rfl;rw[Ld,Lc] at C;obtain⟨q,hq⟩:∃q,dj ws ⟨z,xs,1,(t:Int),O,r⟩=q:=⟨_,rfl⟩;rw[hq] at C HT;clear hq Ld Lc Ll;cases q
     .have HE:=hid (Lp.out (C.out.1 rfl));clear C;go_wp2_with fail;obtain⟨E,F⟩:∃E,wr.alloc (.cells #[.int .i64 z,.int .i64 xs,.int .i64 1,.int .i64 (t:Int),.bool O,.int .u64 (r:Int)] 55)=E:=⟨_,rfl⟩;have N:=Bx.new wr 55 #[.int .i64 z,.int .i64 xs,.int .i64 1,.int .i64 (t:Int),.bool O,.int .u64 (r:Int)];have o:=hB.alloc hz (.cells #[.int .i64 z,.int .i64 xs,.int .i64 1,.int .i64 (t:Int),.bool O,.int .u64 (r:Int)] 55);have d:=y.alloc (.cells #[.int .i64 z,.int .i64 xs,.int .i64 1,.int .i64 (t:Int),.bool O,.int .u64 (r:Int)] 55);have G:(wr.alloc (.cells #[.int .i64 z,.int .i64 xs,.int .i64 1,.int .i64 (t:Int),.bool O,.int .u64 (r:Int)] 55)).heap.size=wr.heap.size+1:=by simp
      have B:=(kze wr (.cells #[.int .i64 z,.int .i64 xs,.int .i64 1,.int .i64 (t:Int),.bool O,.int .u64 (r:Int)] 55) ⟨I,j+k,none⟩ (by dsimp only;omega)).trans p0;rw[F] at N o d G B |-;clear F;have U:=hid (Li.out.up o o.size);have H:=hid o;have M:=hid d;have BX:=hid N;obtain⟨R,x1,T,Y,x4,V,-,g⟩:=N.c6;have Eq:I<E.heap.size:=by omega
      clear o d N y q0 q1 q2 q3 q4 q5 p0;refine kz9 (S:=λX:World=>X.cell? ⟨wr.heap.size,0,none⟩=some (.int .i64 z)/\X.cell? ⟨wr.heap.size,1,none⟩=some (.int .i64 xs)/\X.cell? ⟨wr.heap.size,2,none⟩=some (.int .i64 1)/\X.cell? ⟨wr.heap.size,3,none⟩=some (.int .i64 (t:Int))/\X.cell? ⟨wr.heap.size,4,none⟩=some (.bool O)/\X.cell? ⟨wr.heap.size,5,none⟩=some (.int .u64 (r:Int))/\X.cell? ⟨I,j+k,none⟩=some (.int .i64 (v:Int))) (by kernel_rfl) ⟨R,x1,T,Y,x4,V,B⟩ (λD=>?_);show wpAnyH _ _ _ _ _ 18 #[false,false,false,false,false,false,false,false,false,false,false,false,false,false,false,false,false,false] _ _;refine tj 0 (.slice A ws.length c) ?_;dsimp only[Act.put,kqe,kqd,kqc,kqb,kqg,kqf];refine tj 1 (.agg #[.int .i64 z,.int .i64 xs,.int .i64 1,.int .i64 (t:Int),.bool O,.int .u64 (r:Int)]) ?_
      dsimp only[Act.put,kqe,kqd,kqc,kqb,kqg,kqf];refine kz3 (rs:=[2]) (by kernel_rfl) (by simp) ?_;refine AllReadyH.cons rfl (λK hK=>?_) AllReadyH.nil;go_simp;refine (HT.out E.drew (show RdW E.drew E.drew.heap.size A ws from U.out)).mono ?_;rintro e w5 ⟨rfl,a⟩;go_simp;have J:=hid a;refine hK.out _ _ ⟨(a.cell (p:=⟨wr.heap.size,0,none⟩) g).trans R,(a.cell (p:=⟨wr.heap.size,1,none⟩) g).trans x1,(a.cell (p:=⟨wr.heap.size,2,none⟩) g).trans T,(a.cell (p:=⟨wr.heap.size,3,none⟩) g).trans Y,(a.cell (p:=⟨wr.heap.size,4,none⟩) g).trans x4,(a.cell (p:=⟨wr.heap.size,5,none⟩) g).trans V,(a.cell (p:=⟨I,j+k,none⟩) Eq).trans B⟩ (λZ=>?_);clear hK K;refine tj 3 (.bool true) ?_;dsimp only[Act.put,kqe,kqd,kqc,kqb,kqg,kqf];refine tj 4 (.bool true) ?_;dsimp only[Act.put,kqe,kqd,kqc,kqb,kqg,kqf];refine sk 5 ?_;dsimp only[Act.put,kqe,kqd,kqc,kqb,kqg,kqf];refine sk 6 ?_;dsimp only[Act.put,kqe,kqd,kqc,kqb,kqg,kqf];refine sk 7 ?_;dsimp only[Act.put,kqe,kqd,kqc,kqb,kqg,kqf];refine sk 8 ?_;dsimp only[Act.put,kqe,kqd,kqc,kqb,kqg,kqf];refine sk 9 ?_;dsimp only[Act.put,kqe,kqd,kqc,kqb,kqg,kqf];refine sk 10 ?_;dsimp only[Act.put,kqe,kqd,kqc,kqb,kqg,kqf];refine sk 11 ?_;dsimp only[Act.put,kqe,kqd,kqc,kqb,kqg,kqf];refine sk 12 ?_;dsimp only[Act.put,kqe,kqd,kqc,kqb,kqg,kqf];refine sk 13 ?_
      dsimp only[Act.put,kqe,kqd,kqc,kqb,kqg,kqf];refine sk 14 ?_;dsimp only[Act.put,kqe,kqd,kqc,kqb,kqg,kqf];refine sk 15 ?_;dsimp only[Act.put,kqe,kqd,kqc,kqb,kqg,kqf];refine sk 16 ?_;dsimp only[Act.put,kqe,kqd,kqc,kqb,kqg,kqf];refine tj 17 (.bool true) ?_;dsimp only[Act.put,kqe,kqd,kqc,kqb,kqg,kqf];refine kxw (by kernel_rfl) ?_ _;obtain⟨m0,m1,m2,m3,m4,m5,m6⟩:=Z;clear D a R x1 T Y x4 V B;go_simp;go_wp2;go_ret2;exact⟨lQ HE.out (by omega),Kx.trans ((H.out.trans ((kqk _ _).drew.trans (J.out.mono H.out.size))).mono Lh)⟩
     cases O
     .have HY:=hid (C.out.2.2.2 rfl rfl);clear C;go_wp2_with fail;obtain⟨E,F⟩:∃E,wr.alloc (.cells #[.int .i64 z,.int .i64 xs,.int .i64 1,.int .i64 (t:Int),.bool false,.int .u64 (r:Int)] 55)=E:=⟨_,rfl⟩;have N:=Bx.new wr 55 #[.int .i64 z,.int .i64 xs,.int .i64 1,.int .i64 (t:Int),.bool false,.int .u64 (r:Int)];have o:=hB.alloc hz (.cells #[.int .i64 z,.int .i64 xs,.int .i64 1,.int .i64 (t:Int),.bool false,.int .u64 (r:Int)] 55);have d:=y.alloc (.cells #[.int .i64 z,.int .i64 xs,.int .i64 1,.int .i64 (t:Int),.bool false,.int .u64 (r:Int)] 55);have G:(wr.alloc (.cells #[.int .i64 z,.int .i64 xs,.int .i64 1,.int .i64 (t:Int),.bool false,.int .u64 (r:Int)] 55)).heap.size=wr.heap.size+1:=by simp
      have B:=(kze wr (.cells #[.int .i64 z,.int .i64 xs,.int .i64 1,.int .i64 (t:Int),.bool false,.int .u64 (r:Int)] 55) ⟨I,j+k,none⟩ (by dsimp only;omega)).trans p0;rw[F] at N o d G B |-;clear F;have U:=hid (Li.out.up o o.size);have H:=hid o;have M:=hid d;have BX:=hid N;obtain⟨R,x1,T,Y,x4,V,-,g⟩:=N.c6;have Eq:I<E.heap.size:=by omega
      clear o d N y q0 q1 q2 q3 q4 q5 p0;refine kz9 (S:=λX:World=>X.cell? ⟨wr.heap.size,0,none⟩=some (.int .i64 z)/\X.cell? ⟨wr.heap.size,1,none⟩=some (.int .i64 xs)/\X.cell? ⟨wr.heap.size,2,none⟩=some (.int .i64 1)/\X.cell? ⟨wr.heap.size,3,none⟩=some (.int .i64 (t:Int))/\X.cell? ⟨wr.heap.size,4,none⟩=some (.bool false)/\X.cell? ⟨wr.heap.size,5,none⟩=some (.int .u64 (r:Int))/\X.cell? ⟨I,j+k,none⟩=some (.int .i64 (v:Int))) (by kernel_rfl) ⟨R,x1,T,Y,x4,V,B⟩ (λD=>?_);show wpAnyH _ _ _ _ _ 18 #[false,false,false,false,false,false,false,false,false,false,false,false,false,false,false,false,false,false] _ _;refine tj 0 (.slice A ws.length c) ?_;dsimp only[Act.put,kqe,kqd,kqc,kqb,kqg,kqf];refine tj 1 (.agg #[.int .i64 z,.int .i64 xs,.int .i64 1,.int .i64 (t:Int),.bool false,.int .u64 (r:Int)]) ?_
      dsimp only[Act.put,kqe,kqd,kqc,kqb,kqg,kqf];refine kz3 (rs:=[2]) (by kernel_rfl) (by simp) ?_;refine AllReadyH.cons rfl (λK hK=>?_) AllReadyH.nil;go_simp;refine (HT.out E.drew (show RdW E.drew E.drew.heap.size A ws from U.out)).mono ?_;rintro e w5 ⟨rfl,a⟩;go_simp;have J:=hid a;refine hK.out _ _ ⟨(a.cell (p:=⟨wr.heap.size,0,none⟩) g).trans R,(a.cell (p:=⟨wr.heap.size,1,none⟩) g).trans x1,(a.cell (p:=⟨wr.heap.size,2,none⟩) g).trans T,(a.cell (p:=⟨wr.heap.size,3,none⟩) g).trans Y,(a.cell (p:=⟨wr.heap.size,4,none⟩) g).trans x4,(a.cell (p:=⟨wr.heap.size,5,none⟩) g).trans V,(a.cell (p:=⟨I,j+k,none⟩) Eq).trans B⟩ (λZ=>?_);clear hK K;refine tj 3 (.bool false) ?_;dsimp only[Act.put,kqe,kqd,kqc,kqb,kqg,kqf];refine tj 4 (.bool false) ?_;dsimp only[Act.put,kqe,kqd,kqc,kqb,kqg,kqf];refine tj 5 (.pointer (some ⟨wr.heap.size,4,none⟩)) ?_;dsimp only[Act.put,kqe,kqd,kqc,kqb,kqg,kqf];refine tj 6 (.bool false) ?_;dsimp only[Act.put,kqe,kqd,kqc,kqb,kqg,kqf];refine tj 7 (.bool false) ?_;dsimp only[Act.put,kqe,kqd,kqc,kqb,kqg,kqf];refine sk 8 ?_;dsimp only[Act.put,kqe,kqd,kqc,kqb,kqg,kqf];refine sk 9 ?_;dsimp only[Act.put,kqe,kqd,kqc,kqb,kqg,kqf];refine sk 10 ?_;dsimp only[Act.put,kqe,kqd,kqc,kqb,kqg,kqf];refine sk 11 ?_;dsimp only[Act.put,kqe,kqd,kqc,kqb,kqg,kqf]
      refine sk 12 ?_;dsimp only[Act.put,kqe,kqd,kqc,kqb,kqg,kqf];refine sk 13 ?_;dsimp only[Act.put,kqe,kqd,kqc,kqb,kqg,kqf];refine sk 14 ?_;dsimp only[Act.put,kqe,kqd,kqc,kqb,kqg,kqf];refine sk 15 ?_;dsimp only[Act.put,kqe,kqd,kqc,kqb,kqg,kqf];refine tj 16 (.bool false) ?_;dsimp only[Act.put,kqe,kqd,kqc,kqb,kqg,kqf];refine tj 17 (.bool false) ?_;dsimp only[Act.put,kqe,kqd,kqc,kqb,kqg,kqf];refine kxw (by kernel_rfl) ?_ _;obtain⟨m0,m1,m2,m3,m4,m5,m6⟩:=Z;clear D a R x1 T Y x4 V B;go_simp;go_wp2;go_roundw
      case rel=>exact⟨k+1,by omega,by go_num,HY.out.1,by rw[HY.out.2];exact aa (show (E.drew).ownsRow _ _ _ _ _ _ from M.out) J.out (kqa _),H.out.trans ((kqk _ _).drew.trans (J.out.mono H.out.size))⟩
      case measure=>simp[intOf];omega
     by_cases Lf:r=v
     .have Mw:((r:Int) != (v:Int))=false:=by rw[kqr];omega
      have Mz:=hid (rD y);have HY:=hid (C.out.2.2.1 rfl rfl Lf);clear C Lf;go_wp2_with fail;obtain⟨E,F⟩:∃E,wr.alloc (.cells #[.int .i64 z,.int .i64 xs,.int .i64 1,.int .i64 (t:Int),.bool true,.int .u64 (r:Int)] 55)=E:=⟨_,rfl⟩;have N:=Bx.new wr 55 #[.int .i64 z,.int .i64 xs,.int .i64 1,.int .i64 (t:Int),.bool true,.int .u64 (r:Int)];have o:=hB.alloc hz (.cells #[.int .i64 z,.int .i64 xs,.int .i64 1,.int .i64 (t:Int),.bool true,.int .u64 (r:Int)] 55);have d:=y.alloc (.cells #[.int .i64 z,.int .i64 xs,.int .i64 1,.int .i64 (t:Int),.bool true,.int .u64 (r:Int)] 55);have G:(wr.alloc (.cells #[.int .i64 z,.int .i64 xs,.int .i64 1,.int .i64 (t:Int),.bool true,.int .u64 (r:Int)] 55)).heap.size=wr.heap.size+1:=by simp
      have B:=(kze wr (.cells #[.int .i64 z,.int .i64 xs,.int .i64 1,.int .i64 (t:Int),.bool true,.int .u64 (r:Int)] 55) ⟨I,j+k,none⟩ (by dsimp only;omega)).trans p0;rw[F] at N o d G B |-;clear F;have U:=hid (Li.out.up o o.size);have H:=hid o;have M:=hid d;have BX:=hid N;obtain⟨R,x1,T,Y,x4,V,-,g⟩:=N.c6;have Eq:I<E.heap.size:=by omega
      clear o d N y q0 q1 q2 q3 q4 q5 p0;refine kz9 (S:=λX:World=>X.cell? ⟨wr.heap.size,0,none⟩=some (.int .i64 z)/\X.cell? ⟨wr.heap.size,1,none⟩=some (.int .i64 xs)/\X.cell? ⟨wr.heap.size,2,none⟩=some (.int .i64 1)/\X.cell? ⟨wr.heap.size,3,none⟩=some (.int .i64 (t:Int))/\X.cell? ⟨wr.heap.size,4,none⟩=some (.bool true)/\X.cell? ⟨wr.heap.size,5,none⟩=some (.int .u64 (r:Int))/\X.cell? ⟨I,j+k,none⟩=some (.int .i64 (v:Int))) (by kernel_rfl) ⟨R,x1,T,Y,x4,V,B⟩ (λD=>?_);show wpAnyH _ _ _ _ _ 18 #[false,false,false,false,false,false,false,false,false,false,false,false,false,false,false,false,false,false] _ _;refine tj 0 (.slice A ws.length c) ?_;dsimp only[Act.put,kqe,kqd,kqc,kqb,kqg,kqf];refine tj 1 (.agg #[.int .i64 z,.int .i64 xs,.int .i64 1,.int .i64 (t:Int),.bool true,.int .u64 (r:Int)]) ?_
      dsimp only[Act.put,kqe,kqd,kqc,kqb,kqg,kqf];refine kz3 (rs:=[2]) (by kernel_rfl) (by simp) ?_;refine AllReadyH.cons rfl (λK hK=>?_) AllReadyH.nil;go_simp;refine (HT.out E.drew (show RdW E.drew E.drew.heap.size A ws from U.out)).mono ?_;rintro e w5 ⟨rfl,a⟩;go_simp;have J:=hid a;refine hK.out _ _ ⟨(a.cell (p:=⟨wr.heap.size,0,none⟩) g).trans R,(a.cell (p:=⟨wr.heap.size,1,none⟩) g).trans x1,(a.cell (p:=⟨wr.heap.size,2,none⟩) g).trans T,(a.cell (p:=⟨wr.heap.size,3,none⟩) g).trans Y,(a.cell (p:=⟨wr.heap.size,4,none⟩) g).trans x4,(a.cell (p:=⟨wr.heap.size,5,none⟩) g).trans V,(a.cell (p:=⟨I,j+k,none⟩) Eq).trans B⟩ (λZ=>?_);clear hK K;refine tj 3 (.bool false) ?_;dsimp only[Act.put,kqe,kqd,kqc,kqb,kqg,kqf];refine tj 4 (.bool false) ?_;dsimp only[Act.put,kqe,kqd,kqc,kqb,kqg,kqf];refine tj 5 (.pointer (some ⟨wr.heap.size,4,none⟩)) ?_;dsimp only[Act.put,kqe,kqd,kqc,kqb,kqg,kqf];refine tj 6 (.bool true) ?_;dsimp only[Act.put,kqe,kqd,kqc,kqb,kqg,kqf];refine tj 7 (.bool true) ?_;dsimp only[Act.put,kqe,kqd,kqc,kqb,kqg,kqf];refine tj 8 (.pointer (some ⟨wr.heap.size,5,none⟩)) ?_;dsimp only[Act.put,kqe,kqd,kqc,kqb,kqg,kqf];refine tj 9 (.int .u64 (r:Int)) ?_;dsimp only[Act.put,kqe,kqd,kqc,kqb,kqg,kqf];refine tj 10 (.slice (some ⟨I,j,none⟩) l.length c2) ?_;dsimp only[Act.put,kqe,kqd,kqc,kqb,kqg,kqf];refine tj 11 (.int .i64 (k:Int)) ?_
      dsimp only[Act.put,kqe,kqd,kqc,kqb,kqg,kqf];refine tj 12 (.pointer (some ⟨I,j+k,none⟩)) ?_;dsimp only[Act.put,kqe,kqd,kqc,kqb,kqg,kqf];refine tj 13 (.int .i64 (v:Int)) ?_;dsimp only[Act.put,kqe,kqd,kqc,kqb,kqg,kqf];refine tj 14 (.int .u64 (v:Int)) ?_;dsimp only[Act.put,kqe,kqd,kqc,kqb,kqg,kqf];refine tj 15 (.bool false) ?_;dsimp only[Act.put,kqe,kqd,kqc,kqb,kqg,kqf];refine tj 16 (.bool false) ?_;dsimp only[Act.put,kqe,kqd,kqc,kqb,kqg,kqf];refine tj 17 (.bool false) ?_;dsimp only[Act.put,kqe,kqd,kqc,kqb,kqg,kqf];refine kxw (by kernel_rfl) ?_ _;obtain⟨m0,m1,m2,m3,m4,m5,m6⟩:=Z;clear D a R x1 T Y x4 V B;go_simp;go_wp2_with fail;have La:=H.out.trans ((kqk _ _).drew.trans (J.out.mono H.out.size));have Lb:=aa (show (E.drew).ownsRow _ _ _ _ _ _ from M.out) J.out (kqa _);have Mt:=La.size;have Mj:=bQ M.out Ml;have Mg:some wr.heap.size≠Value.ownBlock u13:=Mz.out;have hg5:wr.heap.size<w5.heap.size:=by have:=J.out.size;have:E.drew.heap.size=E.heap.size:=rfl;omega
      have hp5:I<w5.heap.size:=by omega
      have Nd:m.length+1<=maxLen:=by unfold maxLen;omega
      have Lg:(m.length+1)*16<=140737488355328:=by omega
      have Mb:=hid La;clear La m1 m2 m3 m4 m5
      first
       | (go_region_held3 (λX:World=>X.cell? ⟨wr.heap.size,0,none⟩=some (.int .i64 z)/\X.cell? ⟨I,j+k,none⟩=some (.int .i64 (v:Int)))
        (first | go_keep | (
         go_split_ands
         refine⟨?_,?_⟩
         . (rw[Kw.cell_far _ (by simp;omega) Mg];assumption)
         (rw[Kw.cell_far _ (by simp;omega) Mj];assumption)))
        ((refine step_append_lies _ (by rfl) _ _ _ (by rfl) w3.heap.size 275 i2 _ 2 16 underlying223 HJ.out Mu.out My.out Mr.out rfl (by omega) u13 m.length (m.flatMap qu) (by rfl) ((show (w5.drew).ownsRow _ _ _ _ _ _ from Lb).alloc _) ⟨w5.heap.size,0,none⟩ 1 1 [.int .i64 z,.int .i64 (v:Int)] (by rfl) (by rfl) (World.news_of_block (cs:=#[.int .i64 z,.int .i64 (v:Int)]) (t:=275) (fr:=(0,0)) (heap_alloc_new w5.drew _)) (by simp[Value.oneCell']) (by omega) Nd Lg (by simp;omega) (w5.heap.size+1) (by simp) ?_;intro gg cap w6 Lt Kw hat hlt6)))
       | fail
      go_wp2;go_roundw
      case rel=>exact⟨k+1,by omega,by go_num,HY.out.1,by rw[HY.out.2,kqs,cB];exact Lt,aF (w:=w3) (wr:=w5.drew) (Mb.out.trans (kqk _ _).drew) Mt (show (w5.drew).ownsRow _ _ _ _ _ _ from Lb) Kw⟩
      case measure=>simp[intOf];omega
     have Mw:((r:Int) != (v:Int))=true:=by rw[kqv];omega
     have HE:=hid (Lp.out (C.out.2.1 rfl rfl Lf));clear C Lf;go_wp2_with fail;obtain⟨E,F⟩:∃E,wr.alloc (.cells #[.int .i64 z,.int .i64 xs,.int .i64 1,.int .i64 (t:Int),.bool true,.int .u64 (r:Int)] 55)=E:=⟨_,rfl⟩;have N:=Bx.new wr 55 #[.int .i64 z,.int .i64 xs,.int .i64 1,.int .i64 (t:Int),.bool true,.int .u64 (r:Int)];have o:=hB.alloc hz (.cells #[.int .i64 z,.int .i64 xs,.int .i64 1,.int .i64 (t:Int),.bool true,.int .u64 (r:Int)] 55);have d:=y.alloc (.cells #[.int .i64 z,.int .i64 xs,.int .i64 1,.int .i64 (t:Int),.bool true,.int .u64 (r:Int)] 55);have G:(wr.alloc (.cells #[.int .i64 z,.int .i64 xs,.int .i64 1,.int .i64 (t:Int),.bool true,.int .u64 (r:Int)] 55)).heap.size=wr.heap.size+1:=by simp
     have B:=(kze wr (.cells #[.int .i64 z,.int .i64 xs,.int .i64 1,.int .i64 (t:Int),.bool true,.int .u64 (r:Int)] 55) ⟨I,j+k,none⟩ (by dsimp only;omega)).trans p0;rw[F] at N o d G B |-;clear F;have U:=hid (Li.out.up o o.size);have H:=hid o;have M:=hid d;have BX:=hid N;obtain⟨R,x1,T,Y,x4,V,-,g⟩:=N.c6;have Eq:I<E.heap.size:=by omega
     clear o d N y q0 q1 q2 q3 q4 q5 p0;refine kz9 (S:=λX:World=>X.cell? ⟨wr.heap.size,0,none⟩=some (.int .i64 z)/\X.cell? ⟨wr.heap.size,1,none⟩=some (.int .i64 xs)/\X.cell? ⟨wr.heap.size,2,none⟩=some (.int .i64 1)/\X.cell? ⟨wr.heap.size,3,none⟩=some (.int .i64 (t:Int))/\X.cell? ⟨wr.heap.size,4,none⟩=some (.bool true)/\X.cell? ⟨wr.heap.size,5,none⟩=some (.int .u64 (r:Int))/\X.cell? ⟨I,j+k,none⟩=some (.int .i64 (v:Int))) (by kernel_rfl) ⟨R,x1,T,Y,x4,V,B⟩ (λD=>?_);show wpAnyH _ _ _ _ _ 18 #[false,false,false,false,false,false,false,false,false,false,false,false,false,false,false,false,false,false] _ _;refine tj 0 (.slice A ws.length c) ?_;dsimp only[Act.put,kqe,kqd,kqc,kqb,kqg,kqf];refine tj 1 (.agg #[.int .i64 z,.int .i64 xs,.int .i64 1,.int .i64 (t:Int),.bool true,.int .u64 (r:Int)]) ?_
     dsimp only[Act.put,kqe,kqd,kqc,kqb,kqg,kqf];refine kz3 (rs:=[2]) (by kernel_rfl) (by simp) ?_;refine AllReadyH.cons rfl (λK hK=>?_) AllReadyH.nil;go_simp;refine (HT.out E.drew (show RdW E.drew E.drew.heap.size A ws from U.out)).mono ?_;rintro e w5 ⟨rfl,a⟩;go_simp;have J:=hid a;refine hK.out _ _ ⟨(a.cell (p:=⟨wr.heap.size,0,none⟩) g).trans R,(a.cell (p:=⟨wr.heap.size,1,none⟩) g).trans x1,(a.cell (p:=⟨wr.heap.size,2,none⟩) g).trans T,(a.cell (p:=⟨wr.heap.size,3,none⟩) g).trans Y,(a.cell (p:=⟨wr.heap.size,4,none⟩) g).trans x4,(a.cell (p:=⟨wr.heap.size,5,none⟩) g).trans V,(a.cell (p:=⟨I,j+k,none⟩) Eq).trans B⟩ (λZ=>?_);clear hK K;refine tj 3 (.bool false) ?_;dsimp only[Act.put,kqe,kqd,kqc,kqb,kqg,kqf];refine tj 4 (.bool false) ?_;dsimp only[Act.put,kqe,kqd,kqc,kqb,kqg,kqf];refine tj 5 (.pointer (some ⟨wr.heap.size,4,none⟩)) ?_;dsimp only[Act.put,kqe,kqd,kqc,kqb,kqg,kqf];refine tj 6 (.bool true) ?_;dsimp only[Act.put,kqe,kqd,kqc,kqb,kqg,kqf];refine tj 7 (.bool true) ?_;dsimp only[Act.put,kqe,kqd,kqc,kqb,kqg,kqf];refine tj 8 (.pointer (some ⟨wr.heap.size,5,none⟩)) ?_;dsimp only[Act.put,kqe,kqd,kqc,kqb,kqg,kqf];refine tj 9 (.int .u64 (r:Int)) ?_;dsimp only[Act.put,kqe,kqd,kqc,kqb,kqg,kqf];refine tj 10 (.slice (some ⟨I,j,none⟩) l.length c2) ?_;dsimp only[Act.put,kqe,kqd,kqc,kqb,kqg,kqf];refine tj 11 (.int .i64 (k:Int)) ?_
     dsimp only[Act.put,kqe,kqd,kqc,kqb,kqg,kqf];refine tj 12 (.pointer (some ⟨I,j+k,none⟩)) ?_;dsimp only[Act.put,kqe,kqd,kqc,kqb,kqg,kqf];refine tj 13 (.int .i64 (v:Int)) ?_;dsimp only[Act.put,kqe,kqd,kqc,kqb,kqg,kqf];refine tj 14 (.int .u64 (v:Int)) ?_;dsimp only[Act.put,kqe,kqd,kqc,kqb,kqg,kqf];refine tj 15 (.bool true) ?_;dsimp only[Act.put,kqe,kqd,kqc,kqb,kqg,kqf];refine tj 16 (.bool true) ?_;dsimp only[Act.put,kqe,kqd,kqc,kqb,kqg,kqf];refine tj 17 (.bool true) ?_;dsimp only[Act.put,kqe,kqd,kqc,kqb,kqg,kqf];refine kxw (by kernel_rfl) ?_ _;obtain⟨m0,m1,m2,m3,m4,m5,m6⟩:=Z;clear D a R x1 T Y x4 V B;go_simp;go_wp2;go_ret2;exact⟨lQ HE.out (by omega),Kx.trans ((H.out.trans ((kqk _ _).drew.trans (J.out.mono H.out.size))).mono Lh)⟩
    have hk2:(xk != 1)=true:=by rw[kqv];exact Kz
    have Ld:dW ws ⟨z,xs,xk,xt,O,r⟩=true:=eK Kz;have Lc:aR ⟨z,xs,xk,xt,O,r⟩=false:=by unfold aR;show (xk==1&&O)=false;rw[show (xk==1)=false by rw[kqi];exact Kz];rfl
    have HY:=hid (C.out.2.2.2 Ld Lc);clear Kz Ld Lc C;go_wp2;go_roundw
    case rel=>exact⟨k+1,by omega,by go_num,HY.out.1,by rw[HY.out.2];exact y.alloc _,hB.alloc hz _⟩
    case measure=>simp[intOf];omega
   have HP:=hid (Gq HS.out Q.out (l:=l) (by rw[kqj];exact Lr.out) (by have:=Mm.out;rwa [kq8 (by omega)] at this));rw[kq8 (by omega)] at y;obtain⟨A4,c4,rfl,Mc,Ln⟩:=kr y;have Mh:=hid Ln;have Me:=hid Mc;clear Ln y Mc;go_wp2;go_ret2;exact⟨⟨A4,c4,by rw[HP.out.1,HP.out.2];rfl,by rw[HP.out.2];exact Mh.out,by rw[HP.out.2];exact Me.out⟩,Kx.trans (hB.mono Lh)⟩
 have HE:=hid (Bw HS.out L);have Lu:=IN L;clear L;rcases Lu with⟨g1,g2⟩|⟨⟨g1,g2⟩,⟨g3,g4⟩|⟨⟨g3,g4⟩,g5|⟨g5,g6⟩|⟨⟨g5,g6⟩,g7⟩⟩⟩
 all_goals
  go_enter func161,ntmps161;go_wp2_with fail;refine (aB A ws.length c w hm).mono ?_;rintro e w1 ⟨rfl,rfl⟩;rw[HI.out];go_wp2_with fail
  all_goals
   go_ret2;exact⟨lQ HE.out (by omega),kqk _ _⟩
theorem oT{a b:List α}(ha:k<a.length)(hb:k<b.length)(h:a.take k=b.take k)(h1:a[k]=b[k]):a.take (k+1)=b.take (k+1):=by rw[kqp ha,kqp hb,h,h1]
theorem rF[DecidableEq α]{a b:List α}(hl:a.length=b.length)(h:a.take a.length=b.take a.length):decide (a=b)=true:=by rw[kzf,kq8 (by omega)] at h;rw[kqo];exact h
theorem t5[DecidableEq α]{a b:List α}(ha:k<a.length)(hb:k<b.length)(h1:a[k]≠b[k]):decide (a=b)=false:=by rw[kqh];rintro rfl;exact h1 rfl
theorem qz[DecidableEq α]{a b:List α}(h:a.length≠b.length):decide (a=b)=false:=by rw[kqh];rintro rfl;exact h rfl
theorem qJ(A B:Option Addr)(a b:List En)(n m c d H:Nat)(w:World)(hn:a.length=n)(hm:b.length=m)(h1:n<=1000000)(ha:RdE w H A a)(hb:RdE w H B b)(hH:H<=w.heap.size):
 Calls prog 31 #[.slice A n c,.slice B m d] w λe w'=>e=.returned (.bool (decide (a=b)))/\Below w.heap.size w w':=by
 subst hn hm;have Z:=hid (ha.more hH);have Y:=hid (hb.more hH);clear ha hb hH;by_cases j:a.length=b.length
 .have O:Hid (a.take a.length=b.take a.length->decide (a=b)=true):=hid λh=>rF j h;have L:Hid (∀k (h:k<a.length) (J:k<b.length),a[k]≠b[k]->decide (a=b)=false):=hid λk h J W=>t5 h J W;obtain⟨q,T⟩:=xq (decide (a=b));rw[T] at O L |-;have M:((a.length:Int) != (b.length:Int))=false:=by rw[kqr];omega
  have I:(a.length != b.length)=false:=by rw[kqr];exact j
  have HL:=hid j;clear T j;go_enter func31,ntmps31;go_wp2_with fail;go_loopw [5] (λi wr=>∃k:Nat,k<=a.length/\i=.int .i64 k/\Hid (a.take k=b.take k)/\Below w.heap.size w wr) (λi _=>a.length-(intOf i).toNat)
  case atStart=>exact⟨0,kqz _,rfl,rfl,kqk _ _⟩
  obtain⟨k,hk,rfl,R,z⟩:=hrel;by_cases r:k<a.length
  .have f:k<b.length:=by have:=HL.out;omega
   obtain⟨u,v,rfl,hg1,V,Q⟩:=RdE.at_ (Rd.below Z.out z) r;obtain⟨C,F,rfl,hg2,P,S⟩:=RdE.at_ (Rd.below Y.out z) f;have s:=hid (λh=>oT r f R.out h);have g:=hid (L.out k r f);obtain⟨x,N⟩:=xq (a[k]);obtain⟨y,U⟩:=xq (b[k]);rw[N] at V Q s g;rw[U] at P S s g;obtain⟨t,D⟩:=x;obtain⟨o,E⟩:=y;dsimp only at V Q P S;have hk1:(k:Int)<(a.length:Int):=by omega
   have hk2:(k:Int)<(b.length:Int):=by omega
   have hk0:(0:Int)<=(k:Int):=by omega
   clear N U;have p:((t==o)=true/\((D:Int)==(E:Int))=true)\/(t==o)=false\/(t==o)=true/\((D:Int)==(E:Int))=false:=by cases t==o<;>cases ((D:Int)==(E:Int))<;>simp
   rcases p with⟨G,K⟩|G|⟨G,K⟩
   .have l:=hid (s.out (by rw[kqx] at G K;rw[G,Int.ofNat_inj.1 K]));go_wp2_with fail
    first
     | (go_region_held3 (λX:World=>X.cell? ⟨u,v+k*2,none⟩=some (.int .i64 t)/\X.cell? ⟨u,v+k*2+1,none⟩=some (.int .u64 (D:Int))/\X.cell? ⟨C,F+k*2,none⟩=some (.int .i64 o)/\X.cell? ⟨C,F+k*2+1,none⟩=some (.int .u64 (E:Int))) (go_keep) (fail))
     | fail
    go_wp2;go_roundw
    case rel=>exact⟨k+1,by omega,by go_num,l.out,z.drew⟩
    case measure=>simp[intOf];omega
   .have l:=hid (g.out (by intro h;injection h with h1 J;rw[h1] at G;simp at G));go_wp2_with fail
    first
     | (go_region_held3 (λX:World=>X.cell? ⟨u,v+k*2,none⟩=some (.int .i64 t)/\X.cell? ⟨u,v+k*2+1,none⟩=some (.int .u64 (D:Int))/\X.cell? ⟨C,F+k*2,none⟩=some (.int .i64 o)/\X.cell? ⟨C,F+k*2+1,none⟩=some (.int .u64 (E:Int))) (go_keep) (fail))
     | fail
    go_wp2;go_ret;exact⟨by rw[l.out];rfl,z.drew⟩
   have l:=hid (g.out (by intro h;injection h with h1 J;rw[J] at K;simp at K));go_wp2_with fail
   first
    | (go_region_held3 (λX:World=>X.cell? ⟨u,v+k*2,none⟩=some (.int .i64 t)/\X.cell? ⟨u,v+k*2+1,none⟩=some (.int .u64 (D:Int))/\X.cell? ⟨C,F+k*2,none⟩=some (.int .i64 o)/\X.cell? ⟨C,F+k*2+1,none⟩=some (.int .u64 (E:Int))) (go_keep) (fail))
    | fail
   go_wp2;go_ret;exact⟨by rw[l.out];rfl,z.drew⟩
  have l:=hid (O.out (by have:=R.out;rwa [show k=a.length by omega] at this));go_wp2;go_ret;exact⟨by rw[l.out];rfl,z⟩
 have L:=hid (qz j);have M:((a.length:Int) != (b.length:Int))=true:=by rw[kqv];omega
 have I:(a.length != b.length)=true:=by rw[kqv];exact j
 clear j;go_enter func31,ntmps31;go_wp2;go_ret;exact⟨by rw[L.out];rfl,kqk _ _⟩
def CM (w:World) (xs:List Nat) (e:Ending) (w':World):Prop:=∃g c,e=.returned (.slice (some ⟨g,0,none⟩) xs.length c)/\w'.ownsRow w.heap.size 53 1 (.slice (some ⟨g,0,none⟩) xs.length c) xs.length (xs.flatMap ae)/\Below w.heap.size w w'
theorem lq:(prog.info? 53).map (λi=>(i.zero,i.size,i.bytes))=some (some (.int .u64 0),1,8):=by kernel_rfl
theorem gC(ws:List Nat)(a v:Nat):(ws.set a v).flatMap ae=(ws.flatMap ae).set a (.int .u64 (v:Int)):=by
 have:=eO ae 1 bY ws a 0 (by omega) v (.int .u64 (v:Int)) (λy _=>rfl)
 simpa using this
theorem ki(ws:List Nat):(ws.flatMap ae).length=ws.length:=by rw[cm ae 1 bY];omega
theorem iC(ws:List Nat)(k:Nat)(h:k<ws.length):(ws.flatMap ae)[k]? = some (.int .u64 (ws[k]:Int)):=by
 have:=ja ae 1 bY ws k 0 h (by omega)
 simpa [ae] using this
theorem gt{v:Value}(h:w.ownsRow H e sz v n xs)(hn:0<n):∃g c,v=.slice (some ⟨g,0,none⟩) n c:=by obtain⟨g,c,a,_⟩:=h.form hn;exact⟨g,c,a⟩
theorem ft{g c:Nat}(h:w.ownsRow H e sz (.slice (some ⟨g,0,none⟩) n c) n xs):H<=g:=by
 rcases h.2 with⟨a,_⟩|⟨g',cap',cur,a,hb,_⟩
 .simp at a
 simp only[Value.slice.injEq,Option.some.injEq,Addr.mk.injEq,and_true,true_and] at a;omega
theorem JA(h:bj ws f s≠0):(iH ws f s).length=0:=by simp[iH,h]
theorem Fz(ws:List Nat)(f s:Int):(iH ws f s).length<=2048:=by
 by_cases h:bj ws f s=0
 .obtain ⟨d,b,l,a,h4,c⟩:=co h;rw[c];have hb:=nu d;have ha:=ij b;have h6:=(bK (by omega) _ _ a (by omega) (by omega) (by omega)).1;have h7:=mH l s;omega
 rw[JA h];omega
def Ed (l:List (Int × Int)) (a:Int) (k:Nat):Prop:=fY l a=fY (l.drop k) a
theorem Cf{l:List (Int × Int)}(hk:k<l.length)(h:Ed l a k)(h1:l[k].1≠a):Ed l a (k+1):=by unfold Ed at h |-;rw[h,kx3 hk];simp[fY,h1]
theorem JU{l:List (Int × Int)}(hk:k<l.length)(h:Ed l a k)(h1:l[k].1=a):fY l a=some l[k].2:=by unfold Ed at h;rw[h,kx3 hk];simp[fY,h1]
theorem Fs{l:List (Int × Int)}(h:Ed l a l.length):fY l a=none:=by unfold Ed at h;rw[h,kkf];rfl
theorem fwTo_c(A:Option Addr)(l:List (Int × Int))(c n H:Nat)(a:Int)(w:World)(hn:l.length=n)(hm:n<=1000000)(hr:RdM w H A l)(hH:H<=w.heap.size):
 Calls prog 284 #[.slice A n c,.int .i64 a] w λe w'=>e=.returned (.tuple #[.int .i64 ((fY l a).getD 0),.bool (fY l a).isSome])/\Below w.heap.size w w':=by
 subst hn;have E:=hid (hr.more hH);have u:Hid (∀k (h:k<l.length),Ed l a k->l[k].1=a->fY l a=some l[k].2):=hid λk h C D=>JU h C D;have y:Hid (Ed l a l.length->fY l a=none):=hid Fs;obtain⟨q,z⟩:=xq (fY l a);rw[z] at u y |-;clear hr hH z;go_enter func284,ntmps284;go_wp2_with fail;go_loopw [10] (λi wr=>∃k:Nat,k<=l.length/\i=.int .i64 k/\Hid (Ed l a k)/\Below w.heap.size w wr) (λi _=>l.length-(intOf i).toNat)
 case atStart=>exact⟨0,kqz _,rfl,rfl,kqk _ _⟩
 obtain⟨k,hk,rfl,o,m⟩:=hrel;have t:=m.size;by_cases g:k<l.length
 .obtain ⟨b,off,rfl,hb,B,v⟩:=RdM.at_ (Rd.below E.out m) g;have p:=hid (λh=>Cf g o.out h);have f:=hid (λh=>u.out k g o.out h);obtain⟨x,s⟩:=xq (l[k]);rw[s] at B v p f;obtain⟨r,x2⟩:=x;dsimp only at B v p f;have hk1:(k:Int)<(l.length:Int):=by omega
  clear s;by_cases d:r=a
  .have F:(r==a)=true:=by rw[kqx];exact d
   have j:=hid (f.out d);clear d;go_wp2;go_ret2;exact⟨by rw[j.out];rfl,m.alloc t _⟩
  have F:(r==a)=false:=by rw[kqi];exact d
  have j:=hid (p.out d);clear d;go_wp2;go_roundw
  case rel=>exact⟨k+1,by omega,by go_num,j.out,m.alloc t _⟩
  case measure=>simp[intOf];omega
 have j:=hid (y.out (by have:=o.out;rwa [show k=l.length by omega] at this));go_wp2;go_ret2;exact⟨by rw[j.out];rfl,m⟩
theorem oP{E:List En}(hk:k<E.length):ai ws (E.take (k+1))=if 0<=E[k].a/\E[k].a<(ws.length:Int) then (ai ws (E.take k)).set E[k].a.toNat E[k].v else ai ws (E.take k):=by rw[kqp hk,eT];simp only[ai,au]
theorem oU(E:List En):∀(ws:List Nat),(∀x∈ws,x<18446744073709551616)->(∀e∈E,e.v<18446744073709551616)->∀x∈ai ws E,x<18446744073709551616:=by
 induction E with
 | nil=>intro ws h _;exact h
 | cons e E ih =>
  intro ws h c;simp only[ai];refine ih _ ?_ (λx a=>c x (by simp[a]));split
  .intro x a;rcases List.mem_or_eq_of_mem_set a with b|b
   .exact h x b
   have:=c e (by simp);omega
  exact h
theorem J9(A B:Option Addr)(ws:List Nat)(E:List En)(c d n m H:Nat)(w:World)(hn:ws.length=n)(hm:E.length=m)(h0:0<n)(hn2:n<=1000000)(hm2:m<=1000000)(hr:RdW w H A ws)(he:RdE w H B E)(hH:H<=w.heap.size):
 Calls prog 17 #[.slice A n c,.slice B m d] w λe w'=>CM w (ai ws E) e w':=by
 subst hm;have HR:=hid (hr.more hH);have HE:=hid (he.more hH);have HN:=hid hn;have S:=hid (ki ws);have K:Hid (∀k,(ai ws (E.take k)).length=n):=hid λk=>by rw[au,hn]
 have R:Hid (∀k (h:k<E.length),ai ws (E.take (k+1))=if 0<=E[k].a/\E[k].a<(n:Int) then (ai ws (E.take k)).set E[k].a.toNat E[k].v else ai ws (E.take k)):=hid λk h=>by rw[oP h,hn]
 clear hr he hH hn;obtain⟨i0,W,y,C,F⟩:=kzr lq;have HI:=hid W;have O:=hid y;have U:=hid C;have P:=hid F;clear W y C F;go_enter func17,ntmps17;go_wp2_with (at_builtin;refine aX _ (by rfl) _ _ 22 rfl w.heap.size 53 i0 _ 1 8 underlying22 HI.out O.out U.out P.out rfl (by decide) (.slice (some ⟨w.heap.size,0,none⟩) 0 0) 0 [] (by rfl) (iT w _ _ _ (kqa _)) w.heap.size A n _ (ws.flatMap ae) (by rfl) (by rw[S.out,HN.out];omega) (Rd.alloc HR.out (kqa _) _) (dy qs _) (by unfold maxLen;omega) (by omega) (by simp) ?_;intro v1 wa j G;have t:=bu ((kqk w.heap.size w).alloc (kqa _) _) (by simp) (iT w w.heap.size 53 1 (kqa _)) G;simp only[kxd,kz2] at j;obtain⟨g,c1,rfl⟩:=gt j (by omega);have J:=hid j;have T:=hid t;clear j t G);go_loopw [6] (λi wr=>∃k:Nat,k<=E.length/\i=.int .i64 k/\wr.ownsRow w.heap.size 53 1 (.slice (some ⟨g,0,none⟩) n c1) n ((ai ws (E.take k)).flatMap ae)/\Below w.heap.size w wr) (λi _=>E.length-(intOf i).toNat)
 case atStart=>exact⟨0,kqz _,rfl,J.out,T.out⟩
 obtain⟨k,hk,rfl,f,z⟩:=hrel;have hz:=z.size;have N:=ft f;by_cases I:k<E.length
 .obtain ⟨b,D,rfl,hb,p0,Z⟩:=RdE.at_ (Rd.below HE.out z) I;have q:=hid (R.out k I);obtain⟨x,V⟩:=xq (E[k]);rw[V] at p0 Z q;obtain⟨L,Y⟩:=x;dsimp only at p0 Z q;have hk1:(k:Int)<(E.length:Int):=by omega
  have hk0:(0:Int)<=(k:Int):=by omega
  have hbg:b≠g:=by omega
  have hgb:g≠b:=by omega
  clear V;by_cases o:0<=L/\L<(n:Int)
  .rw[if_pos o] at q;obtain⟨g1,g2⟩:=o;obtain⟨a,rfl⟩:=kq1 g1;rw[kqj] at q;obtain⟨l,r⟩:=xq (ai ws (E.take k));have Q:=K.out k;rw[r] at q f Q;have c0:=(f.cellAt a (by omega)).trans (iC l a (by omega));have f0:=f.frozenAt a;obtain⟨u,hu⟩:∃u,((l[a]'(by omega):Nat):Int)=u:=⟨_,rfl⟩;rw[hu] at c0;have HO:=hid f;clear hu f r;go_wp2_with fail
   first
    | (go_region_held3 (λX:World=>X.cell? ⟨b,D+k*2,none⟩=some (.int .i64 (a:Int))/\X.cell? ⟨b,D+k*2+1,none⟩=some (.int .u64 (Y:Int))) (go_keep) (fail))
    | fail
   go_wp2;go_roundw
   case rel =>
    refine⟨k+1,by omega,by go_num,?_,z.drew.setCell (p:=⟨g,a,none⟩) N _⟩;rw[q.out,gC];exact ((show (wr.drew).ownsRow _ _ _ _ _ _ from HO.out).stored a (.int .u64 (Y:Int))).1
   case measure=>simp[intOf];omega
  rw[if_neg o] at q;have s:L<0\/0<=L/\(n:Int)<=L:=by omega
  clear o;rcases s with h1|⟨h1,h2⟩
  all_goals
   go_wp2;go_roundw
   case rel=>exact⟨k+1,by omega,by go_num,by rw[q.out];exact f,z⟩
   case measure=>simp[intOf];omega
 rw[kq8 (by omega)] at f;have M:=K.out E.length;rw[kzf] at M;go_wp2;go_ret;exact⟨g,c1,by rw[M];rfl,by rw[M];exact f,z⟩
def iQ (x:Nat) (m:Bool):Bk:={ ap x with mark:=m }
def gN (x:Nat) (m:Bool):Nat:=if aG x=true then jH (iQ x m) else 0
def pm (x:Nat) (m:Bool):Int:=if aG x=true then jx (iQ x m) else 50
theorem pL(x:Nat)(m:Bool)(w:World)(hx:x<18446744073709551616):Calls prog 205 #[.int .u64 (x:Int),.bool m] w λe w'=>e=.returned (.tuple #[.int .u64 (gN x m:Nat),.int .i64 (pm x m)])/\Below w.heap.size w w':=by
 have a:=hid (nW x w hx);have d:(ap x).val=.agg #[.int .i64 0,.int .i64 ((x/65536%65536:Nat):Int),.int .i64 ((x%256:Nat):Int),.int .i64 ((x/512%128:Nat):Int),.bool (x/256%2==1),.int .u64 0]:=rfl;have b:(iQ x m).val=.agg #[.int .i64 0,.int .i64 ((x/65536%65536:Nat):Int),.int .i64 ((x%256:Nat):Int),.int .i64 ((x/512%128:Nat):Int),.bool m,.int .u64 0]:=rfl;cases f:aG x
 .have g:=hid (show gN x m=0/\pm x m=50 by simp[gN,pm,f]);rw[(mP f).1,(mP f).2] at a;unfold mW Bk.val at a;dsimp only at a;clear f d b hx;go_enter func205,ntmps205;go_wp2_with fail;refine a.out.mono ?_;rintro e s ⟨rfl,c⟩;go_wp2;go_ret2;exact⟨by rw[g.out.1,g.out.2];rfl,c.alloc c.size _⟩
 have g:=hid (show gN x m=jH (iQ x m)/\pm x m=jx (iQ x m) by simp[gN,pm,f]);have l:=hid (λW=>qw (iQ x m) W);rw[(mM f).1,(mM f).2,d] at a;rw[b] at l;obtain⟨S,q⟩:∃S,((x/65536%65536:Nat):Int)=S:=⟨_,rfl⟩;obtain⟨K,i⟩:∃K,((x%256:Nat):Int)=K:=⟨_,rfl⟩;obtain⟨T,o⟩:∃T,((x/512%128:Nat):Int)=T:=⟨_,rfl⟩;obtain⟨M,r⟩:=xq ((x/256%2==1));obtain⟨V,j⟩:=xq (jH (iQ x m));obtain⟨R,p⟩:=xq (jx (iQ x m));rw[q,i,o,r] at a;rw[q,i,o,j,p] at l;rw[j,p] at g;clear f d b hx q i o r j p;go_enter func205,ntmps205;go_wp2_with fail;refine a.out.mono ?_;rintro e s ⟨rfl,c⟩;have k:=c.size;go_wp2_with fail;refine (l.out _).mono ?_;rintro e w2 ⟨rfl,h⟩;have n:=(c.alloc k (.cells #[.int .i64 0,.int .i64 S,.int .i64 K,.int .i64 T,.bool m,.int .u64 0] 55)).trans (h.mono (by simp;omega));go_wp2;go_ret2;exact⟨by rw[g.out.1,g.out.2];rfl,n⟩
end Go.Proofs.YtpcajamacpbjcaaGreat
