/- References: the change of fixing, over the live blocks. -/
import Derived.Test.YtpcajamacpbjcaaGreatZKStg1
import Derived.Test.YtpcajamacpbjcaaGreatZKStg3
import Derived.Test.YtpcajamacpbjcaaGreatZKRs
import Derived.Test.YtpcajamacpbjcaaGreatZKCp1
import Derived.Test.YtpcajamacpbjcaaGreatZGVd
import Derived.Test.YtpcajamacpbjcaaGreatZKCursor
import Derived.Test.YtpcajamacpbjcaaGreatZGVb
import Derived.Test.YtpcajamacpbjcaaGreatZGVc
import Derived.Test.YtpcajamacpbjcaaGreatZKNx
import Derived.Test.YtpcajamacpbjcaaGreatZKMove
import Derived.Test.YtpcajamacpbjcaaGreatZKHead
set_option maxHeartbeats 16000000
set_option maxRecDepth 100000
set_option linter.all false
namespace Go.Proofs.YtpcajamacpbjcaaGreat
open Go.RowKit
variable {l:List Bk}{ws:List Nat}{k:Nat}
open Go.Proofs.Tryz
theorem rs_obj(h0:ag ws=0){m:Nat}(ho:eg ws m):bK ws (m:Int)=cU ws (bkAt ws m):=by
 obtain⟨k,g,e,-⟩:=ho.2.2.2.2.2.2;have b:bkAt ws m∈aa ws:=by rw[<-e];exact kqs g
 have d:aU ws 128=aa ws:=(fa h0).2.1;obtain⟨b2,c⟩:=jS (l:=aa ws) (a:=(m:Int)) b (ab ws m) ho.2.2.2.2.1;obtain⟨h,f,f3⟩:=ib c;obtain rfl:=mf (cb h0).2 h b (by rw[f,ab]);unfold bK;rw[if_pos h0,d,c]
def ur (ws:List Nat):List Bk->Int × List En
 | []=>(0,bG)
 | b::L=>if cU ws b=[] then ur ws L else if cG ws b.at_=0 then (0,⟨17,(b.at_+b.size).toNat⟩::cr ws b.at_) else (cG ws b.at_,[])
theorem sr(hk:k<=l.length)(h:eM l k):(l.take k).filter aA=[]:=by rw[kj6];intro b c;obtain⟨j,d,rfl⟩:=kqv c;rw[kzd] at d;have a:=h j (by omega);rw[bo l j (by omega)] at a;rw[kkb];unfold aA;rw[a,kjl];decide
theorem DN(h0:ag ws=0):∀d a l,ws.length-a<=d->blocks ws a=some l->a%2=0->128<=a->a<=ws.length->(∀b∈l,b∈aa ws)->iK ws a=ur ws (l.filter aA):=by
 have C:=(al h0).1;intro d
 induction d with
 | zero =>
  intro a l H e D K R _;have G:ws.length<=a:=by omega
  rw[aC G] at e;injection e with e;subst e;have f:bp ws (a:Int)≠0:=λh=>by
   obtain⟨-,-,-,m,-,M,-,I,-,A,-⟩:=eK h;omega
  rw[iu f];rfl
 | succ d ih =>
  intro a l H e D K R n;by_cases f:bp ws (a:Int)=0
  .obtain ⟨-,-,-,m,v,M,m2,I,m4,A,m6,J,B,P,y,-,-,k,t,c,F⟩:=eK f;obtain rfl:l=P:=by rw[e] at y;injection y
   have r:=bN F (by omega);obtain⟨N,u,g3,x⟩:=r;have i:l.drop k=bkAt ws m::l.drop (k+1):=by rw[bo _ _ N] at u;rw[kxh t];rw[kjn] at u;simp only[kz6] at u;rw[u]
   rw[kxv] at x;have O:aA (bkAt ws m)=true:=by unfold aA;rw[J,B];rfl
   have j:bkAt ws m∈l:=kx4 (by rw[i];exact List.mem_cons_self ..);obtain⟨q,Q,z⟩:=kqv (n _ j);obtain⟨E,S,w⟩:=lw h0 Q (by rw[z];exact B);obtain rfl:m=E:=by have:=congrArg Bk.at_ (z.symm.trans S);rw[ab,ab] at this;omega
   have g:=rs_obj h0 w;rw[<-kz2 k l,kxj,sr (kjf t) c,kz5,i,kx6,if_pos O];simp only[ur];by_cases o:cU ws (bkAt ws m)=[]
   .rw[if_pos o,iZ f v (by rw[g];exact o)];exact ih _ _ (by omega) x (by omega) (by omega) A (λb e=>n b (kx4 e))
   rw[if_neg o];by_cases s:cG ws (m:Int)=0
   .rw[ab,if_pos s,aP,show (((m:Int)+((szAt ws m:Nat):Int)).toNat)=m+szAt ws m by omega];exact mC f v (by rw[g];exact o) s
   rw[ab,if_neg s];exact pA f v (by rw[g];exact o) s
  rw[iu f];have p:eB ws.length (a:Int)=false:=by simp only[eB,kzo,kqc,kqp];omega
  have r:=ci C p (l:=l) (by rw[kqj];exact e);rcases lm l with⟨k,t,c,L⟩|c
  .exact absurd (pL r.1 r.2 t c L).2 f
  have:=sr (kqb _) c;rw[kzj] at this;rw[this];rfl
theorem AZ(h0:ag ws=0)(hin:∀b∈l,b∈aa ws){b:Bk}(hb:b∈l.filter aA):∃m:Nat,b=bkAt ws m/\eg ws m:=by
 rw[kzu] at hb;obtain⟨q,e,a⟩:=kqv (hin _ hb.1);have c:b.kind=1:=by have:=hb.2;unfold aA at this;simp only[kqw,kqu] at this;exact this.1
 obtain⟨m,d,f⟩:=lw h0 e (by rw[a];exact c);exact⟨m,by rw[<-a,d],f⟩
theorem BI(h:(ac ws).1=0):aw ws=0/\(
 (wd ws 16=1/\aF ws=0/\(ac ws).2=gE (aN ws) 2) \/
 (wd ws 16=2/\ag ws=0/\(ac ws).2=gE (aG ws) 3) \/
 (wd ws 16=3/\wd ws 17=0/\dm ws=0/\(ac ws).2=⟨17,128⟩::dd ws) \/
 (wd ws 16=3/\wd ws 17≠0/\(iK ws (wd ws 17)).1=0/\(ac ws).2=(iK ws (wd ws 17)).2) \/
 (wd ws 16=4/\∃(m:Nat) (l L:List Bk),blocks ws (wd ws 17)=some l/\l.filter aA=bkAt ws m::L/\stands ws m=true/\(ah (wd ws m)).kind=1/\128<=wd ws 17/\wd ws 17%2=0/\wd ws 17<=ws.length/\wd ws 18<=m/\(ac ws).2=⟨17,m+szAt ws m⟩::⟨18,wd ws 18+szAt ws m⟩::iG ws m (wd ws 18))):=by
 have f:aw ws=0:=by
  by_cases s:aw ws=0
  .exact s
  unfold ac at h;rw[if_neg s] at h;exact absurd h s
 refine⟨f,?_⟩;have e:ac ws=(if wd ws 16=1 then (if aF ws=0 then (0,gE (aN ws) 2) else (aF ws,[]))
  else if wd ws 16=2 then (if ag ws=0 then (0,gE (aG ws) 3) else (ag ws,[]))
  else if wd ws 16=3 then dp ws
  else if wd ws 16=4 then eO ws else (6,[])):=by unfold ac;rw[if_pos f]
 rw[e] at h |-;clear e;by_cases q:wd ws 16=1
 .rw[if_pos q] at h |-;by_cases b:aF ws=0
  .rw[if_pos b];exact .inl ⟨q,b,rfl⟩
  rw[if_neg b] at h;exact absurd h b
 rw[if_neg q] at h |-;by_cases o:wd ws 16=2
 .rw[if_pos o] at h |-;by_cases b:ag ws=0
  .rw[if_pos b];exact .inr (.inl ⟨o,b,rfl⟩)
  rw[if_neg b] at h;exact absurd h b
 rw[if_neg o] at h |-;by_cases i:wd ws 16=3
 .rw[if_pos i] at h |-;unfold dp at h |-;by_cases g:wd ws 17=0
  .rw[if_pos g] at h |-;by_cases b:dm ws=0
   .rw[if_pos b];exact .inr (.inr (.inl ⟨i,g,b,rfl⟩))
   rw[if_neg b] at h;exact absurd h b
  rw[if_neg g] at h |-;exact .inr (.inr (.inr (.inl ⟨i,g,h,rfl⟩)))
 rw[if_neg i] at h |-;by_cases p:wd ws 16=4
 .rw[if_pos p] at h |-;unfold eO at h |-;by_cases d:bp ws ((wd ws 17:Nat):Int)=0
  .rw[if_pos d] at h |-;obtain⟨-,y,B,m,C,m1,m2,m3,m4,m5,A,D,w,l,x,-,-,k,v,r,z⟩:=eK d;rw[C,ab] at h |-;by_cases c:eW ws (m:Int) ((wd ws 18:Nat):Int)=0
   .rw[if_pos c];obtain⟨a,u,n,ea,eu,en,n2,n10,hu,hua,han,-⟩:=fg c;obtain⟨F,j,g3,g4⟩:=bN z (by omega);have t:l.drop k=bkAt ws m::l.drop (k+1):=by rw[bo _ _ F] at j;rw[kxh v];rw[kjn] at j;simp only[kz6] at j;rw[j]
    have E:aA (bkAt ws m)=true:=by unfold aA;rw[D,w];rfl
    refine .inr (.inr (.inr (.inr ⟨p,m,l,(l.drop (k+1)).filter aA,x,?_,A,w,y,B,by omega,by omega,?_⟩)))
    .refine (congrArg (List.filter aA) (kz2 k l)).symm.trans ?_;rw[kxj,sr (kjf v) r,kz5,t,kx6,if_pos E]
    unfold jH;rw[if_pos c,aP,kqj,kqj,show ((m:Int)+((szAt ws m:Nat):Int)).toNat=m+szAt ws m by omega,show (((wd ws 18:Nat):Int)+((szAt ws m:Nat):Int)).toNat=wd ws 18+szAt ws m by omega]
   rw[if_neg c] at h;exact absurd h c
  rw[if_neg d] at h;cases h
 rw[if_neg p] at h;cases h
theorem nx_six(h:(cJ ws).1=0)(h6:(ac ws).1=6):aw ws=0/\(wd ws 16=0/\cJ ws=(0,true,[])\/wd ws 16=4/\dX ws=0/\cJ ws=(0,false,dj ws)):=by
 refine⟨yJ h6,?_⟩;unfold cJ at h |-;rw[if_pos h6] at h |-;by_cases a:wd ws 16=0
 .rw[if_pos a];exact .inl ⟨a,rfl⟩
 rw[if_neg a] at h |-;have b:dX ws=0:=h;refine .inr ⟨(jx b).2.1,b,by rw[b]⟩
theorem nx_one(h:(cJ ws).1=0)(h6:(ac ws).1≠6):(ac ws).1=0/\cJ ws=(0,false,(ac ws).2):=by unfold cJ at h |-;rw[if_neg h6] at h |-;have:(ac ws).1=0:=h;exact⟨this,by rw[this]⟩
open Lib (hid)
theorem CB{L:List Bk}(hk:k<L.length):ur ws (L.drop k)=if cU ws L[k]=[] then ur ws (L.drop (k+1)) else if cG ws L[k].at_=0 then (0,⟨17,(L[k].at_+L[k].size).toNat⟩::cr ws L[k].at_) else (cG ws L[k].at_,[]):=by rw[kxh hk];rfl
theorem D8(A:Option Addr)(ws:List Nat)(c n f:Nat)(q t:Int)(w:World)(hn:ws.length=n)(h0:ag ws=0)(hf0:f≠0)(hbd:nn ws f=true)(hf2:f%2=0)(hfn:f<=n)(h:(iK ws f).1=0)(hr:RdW w w.heap.size A ws)(ho:∀x∈ws,x<18446744073709551616):
 Calls prog 193 #[.slice A n c,.agg #[.int .i64 q,.int .i64 (f:Int),.int .i64 t]] w λe w'=>dx w.heap.size 0 (iK ws f).2 e w'/\Below w.heap.size w w':=by
 have hs:=(al h0).1;have hb:=de ws hs;rw[hn] at hb;obtain⟨G,k0,Fx,Ft⟩:=Fi h0 hbd;have Fs:∀b∈(aa ws).drop k0,b∈aa ws:=λb hb=>kx4 hb;have Fr:=DN h0 _ f _ (kqb _) Ft hf2 G (by omega) Fs;have Gf:(((aa ws).drop k0).filter aA).length<=1024:=by refine kzv (kxm _ _) ?_;rw[kxf];have:=dl ws;omega
 have O:=hid (λW (h:RdW W W.heap.size A ws)=>mh A ws c n f _ W hn hs hf2 G hfn Ft h ho);unfold uV at O;have Gi:=hid (λb (hb:b∈((aa ws).drop k0).filter aA)=>AZ h0 Fs hb);generalize ((aa ws).drop k0).filter aA=L at Fr Gf O Gi;have Jg:=hid (λa W (h:eg ws a) (hr:RdW W W.heap.size A ws)=>rP (ws:=ws) (a:=a) A c n W hn (by omega) (by omega) h0 h hr ho);have Gg:=hid (λ(a:Nat) W (h:cG ws (a:Int)=0) (hr:RdW W W.heap.size A ws)=>so A ws c n (a:Int) W hn h hr ho);unfold dx at Gg;have Gm:Hid (∀a:Nat,cG ws (a:Int)=0->(cr ws (a:Int)).length<=8):=hid λa h=>by
  obtain⟨f,-,-,-,-,q5,-⟩:=gy h;exact q5
 have Jf:Hid (∀a,eg ws a->a+szAt ws a<=n):=hid λa h=>by
  have:=ax h.2.2.2.1;omega
 have Je:=hid (λk (hk:k<L.length)=>CB (ws:=ws) hk);have Gj:=hid Fr;have HZ:=hid h;have HR:=hid hr;obtain⟨m,hm⟩:=xq L.length;rw[hm] at O Gf;have HM:=hid hm;have xb:=Bx.new w 107 #[.int .i64 q,.int .i64 (f:Int),.int .i64 t];have B:=hid ((kqk w.heap.size w).alloc (kqb _) (.cells #[.int .i64 q,.int .i64 (f:Int),.int .i64 t] 107));have XB:=hid xb;have f0:((f:Int)==0)=false:=by rw[kqi];omega
 have f0n:(f==0)=false:=by rw[kqi];exact hf0
 obtain⟨wP,Fq⟩:∃wP,w.alloc (.cells #[.int .i64 q,.int .i64 (f:Int),.int .i64 t] 107)=wP:=⟨_,rfl⟩;have Jb:=Fq;rw[Fq] at B XB;have Gp:=hid (hr.up B.out B.out.size);obtain⟨p0,p1,p2,-⟩:=XB.out.c3;unfold dx;clear hr ho h h0 hn Ft hbd hf2 G Fx hs hm Fr Jb xb Fs hf0;obtain⟨i0,hi,Fz,Gh,C⟩:=kze bB;have HI:=hid hi;have Gu:=hid Fz;have Gr:=hid Gh;have Gy:=hid C;clear hi Fz Gh C;go_enter func193,ntmps193;go_wp2_with fail;refine (O.out _ Gp.out).mono ?_;rintro e w1 ⟨⟨LB,dL,rfl,j⟩,Gd⟩;have v:=hid (B.out.trans (Gd.mono B.out.size));have Gl:=hid (show RdB w1 w1.heap.size LB L from Rd.of_own j);have Gk:=hid (HR.out.up v.out v.out.size);clear j Gd p0 p1 p2 f0 f0n Fq;go_wp2_with fail;go_loopw [9] (λvi wr=>∃k:Nat,k<=m/\vi=.int .i64 k/\Hid (ur ws (L.drop k)=iK ws f)/\Below w1.heap.size w1 wr) (λi _=>m-(intOf i).toNat)
 case atStart=>exact⟨0,kqx _,rfl,Gj.out.symm,kqk _ _⟩
 obtain⟨k,hk,rfl,Fp,hB⟩:=hrel;have hz:=hB.size;by_cases Ga:k<m
 .have Fu:k<L.length:=by rw[HM.out];exact Ga
  obtain⟨a,ea,D⟩:=Gi.out L[k] (kqs Fu);obtain⟨b,d,rfl,hbb,q0,q1,q2,q3,q4,q5⟩:=RdB.at_ (Rd.below Gl.out hB) Fu;have s:=hid (λW h=>Jg.out a W D h);have Gs:=hid (λW u h2=>Gg.out a W u h2);have Gn:=hid (Gm.out a);have Gq:=Jf.out a D;have g:=Je.out k Fu;have u:=HZ.out;rw[<-Fp.out,g,ea,ab,aP] at u;rw[Fp.out,ea,ab,aP] at g;rw[ea] at q0 q1 q2 q3 q4 q5;rw[ab] at q0;rw[aP] at q1;have eb:qM (bkAt ws a)=.agg #[.int .i64 (a:Int),.int .i64 ((szAt ws a:Nat):Int),.int .i64 (bkAt ws a).kind,.int .i64 (bkAt ws a).typ,.bool (bkAt ws a).mark,.int .u64 ((bkAt ws a).next:Int)]:=rfl;rw[eb] at s;obtain⟨R,hR⟩:=xq (cU ws (bkAt ws a));rw[hR] at s u g;obtain⟨z,C⟩:=xq (szAt ws a);rw[C] at s u g Gq q1;obtain⟨K,U⟩:=xq ((bkAt ws a).kind);obtain⟨T,hT⟩:=xq ((bkAt ws a).typ);obtain⟨M,hM⟩:=xq ((bkAt ws a).mark);obtain⟨N,hN⟩:=xq ((bkAt ws a).next);rw[U,hT,hM,hN] at s;rw[U] at q2;rw[hT] at q3;rw[hM] at q4;rw[hN] at q5;have Eq:=hid (Gk.out.up hB hz);have Fx:(0:Int)<=(k:Int):=by omega
  have hki:(k:Int)<(m:Int):=by omega
  have Fo:b<wr.heap.size:=by omega
  have HB:=hid hB;clear hB D ea eb hR C U hT hM hN;by_cases I:R=[]
  .rw[if_pos I] at g;have Gv:=hid g.symm;subst I;clear g u;go_wp2_with fail;refine (s.out _ Eq.out).mono ?_;rintro e w2 ⟨⟨B2,d2,rfl,-⟩,o⟩;have P:=hid (HB.out.trans (o.mono hz));clear o q0 q1 q2 q3 q4 q5;simp only[kxc];go_wp2;go_roundw
   case rel=>exact⟨k+1,by omega,by go_num,Gv.out,P.out⟩
   case measure=>simp[intOf];omega
  rw[if_neg I] at g u;by_cases y:cG ws (a:Int)=0
  .rw[if_pos y] at g;have Gt:=Gn.out y;have Y:=hid (λW h=>Gs.out W y h);obtain⟨E,hE⟩:∃E,cr ws (a:Int)=E:=⟨_,rfl⟩;rw[hE] at g Gt Y;rw[show ((a:Int)+(z:Int)).toNat=a+z by omega] at g;have HV:=hid g;have Z:¬ R.length=0:=λh=>I (kxa h);obtain⟨lr,Gc⟩:=xq R.length;rw[Gc] at s Z;have l0:((lr:Int)==0)=false:=by rw[kqi];omega
   have l0n:(lr==0)=false:=by rw[kqi];exact Z
   have wmz:IntKind.i64.wrap ((a:Int)+(z:Int))=(a:Int)+(z:Int):=kqo _ (by omega);have wmu:IntKind.u64.wrap ((a:Int)+(z:Int))=(a:Int)+(z:Int):=kzi _ (by omega);have Gw:=hid (show (((a+z:Nat)):Int)=(a:Int)+(z:Int) by omega);clear g u y hE Z Gc I;go_wp2_with fail;refine (s.out _ Eq.out).mono ?_;rintro e w2 ⟨⟨B2,d2,rfl,-⟩,o⟩;have r0:=(o.cell (p:=⟨b,d+k*6,none⟩) Fo).trans q0;have r1:=(o.cell (p:=⟨b,d+k*6+1,none⟩) Fo).trans q1;have P:=hid (HB.out.trans (o.mono hz));have Jc:=hid (Eq.out.up o o.size);have H:b<w2.heap.size:=kxi Fo o.size;clear o q0 q1 q2 q3 q4 q5;go_wp2_with fail;refine (Y.out _ Jc.out).mono ?_;rintro e w3 ⟨⟨A3,c3,rfl,r⟩,F⟩;have s0:=(F.cell (p:=⟨b,d+k*6,none⟩) H).trans r0;have s1:=(F.cell (p:=⟨b,d+k*6+1,none⟩) H).trans r1;have Gx:=hid (P.out.trans (F.mono P.out.size));have Ja:=hid (Rd.of_own r);have HOE:=hid r;have V:=hid (v.out.trans (Gx.out.mono v.out.size)).drew;have Gb:b<w3.heap.size:=kxi H F.size;clear F r0 r1 r;go_wp2_with fail;refine kz9 (S:=λX:World=>X.cell? ⟨b,d+k*6,none⟩=some (.int .i64 (a:Int))/\X.cell? ⟨b,d+k*6+1,none⟩=some (.int .i64 (z:Int))) (by kernel_rfl) ⟨s0,s1⟩ (λl=>?_);show wpAnyH _ _ _ _ _ 18 #[false,false,false,false,false,false,false,false,false,false,false,false,false,false,false,false,false,false] _ _;refine tj 0 (.slice (some ⟨b,d,none⟩) m dL) ?_;dsimp only[Act.put,kqh,kqe,kqd,kqa,kqg,kqf];refine tj 1 (.int .i64 (k:Int)) ?_
   dsimp only[Act.put,kqh,kqe,kqd,kqa,kqg,kqf];refine tj 2 (.pointer (some ⟨b,d+k*6,none⟩)) ?_;dsimp only[Act.put,kqh,kqe,kqd,kqa,kqg,kqf];refine tj 3 (.pointer (some ⟨b,d+k*6,none⟩)) ?_;dsimp only[Act.put,kqh,kqe,kqd,kqa,kqg,kqf];refine tj 4 (.int .i64 (a:Int)) ?_;dsimp only[Act.put,kqh,kqe,kqd,kqa,kqg,kqf];refine tj 5 (.slice (some ⟨b,d,none⟩) m dL) ?_;dsimp only[Act.put,kqh,kqe,kqd,kqa,kqg,kqf];refine tj 6 (.int .i64 (k:Int)) ?_;dsimp only[Act.put,kqh,kqe,kqd,kqa,kqg,kqf];refine tj 7 (.pointer (some ⟨b,d+k*6,none⟩)) ?_;dsimp only[Act.put,kqh,kqe,kqd,kqa,kqg,kqf];refine tj 8 (.pointer (some ⟨b,d+k*6+1,none⟩)) ?_;dsimp only[Act.put,kqh,kqe,kqd,kqa,kqg,kqf];refine tj 9 (.int .i64 (z:Int)) ?_;dsimp only[Act.put,kqh,kqe,kqd,kqa,kqg,kqf];refine tj 10 (.int .i64 ((a:Int)+(z:Int))) ?_;dsimp only[Act.put,kqh,kqe,kqd,kqa,kqg,kqf];refine tj 11 (.int .u64 ((a:Int)+(z:Int))) ?_;dsimp only[Act.put,kqh,kqe,kqd,kqa,kqg,kqf];refine tj 12 (.agg #[.int .i64 17,.int .u64 ((a:Int)+(z:Int))]) ?_;dsimp only[Act.put,kqh,kqe,kqd,kqa,kqg,kqf];refine tj 14 (.slice A3 E.length c3) ?_;dsimp only[Act.put,kqh,kqe,kqd,kqa,kqg,kqf];have Fy:=hid (show Rd w3.drew w3.drew.heap.size A3 (E.flatMap En.cells) from Ja.out);obtain⟨W,hW⟩:=xq w3.drew;have J:b<W.heap.size:=by rw[<-hW];exact Gb
   rw[hW] at V Fy l |-;clear hW;simp only[kqa,kqg,kqf];refine kz4 (rs:=[13]) (by kernel_rfl) (by simp) ?_;refine AllReadyH.cons rfl (λK U=>?_) AllReadyH.nil;go_simp;refine U.out _ _ ⟨(kq8 W _ ⟨b,d+k*6,none⟩ J).trans l.1,(kq8 W _ ⟨b,d+k*6+1,none⟩ J).trans l.2⟩ (λGz=>?_);clear U K;refine kz4 (rs:=[15]) (by kernel_rfl) (by simp) ?_;refine AllReadyH.cons rfl (λK U=>?_) AllReadyH.nil;refine fA _ _ _ 26 (by rfl) W.heap.size 89 i0 _ 2 16 underlying26 HI.out Gu.out Gr.out Gy.out rfl (by decide) (.slice (some ⟨W.heap.size,0,none⟩) 1 1) 1 [.int .i64 17,.int .u64 ((a:Int)+(z:Int))] (by rfl) (bh (n:=1) (sz:=2) W 89 #[.int .i64 17,.int .u64 ((a:Int)+(z:Int))] (kqb _) (by rfl) (by unfold maxLen;omega)) W.heap.size A3 E.length c3 (E.flatMap En.cells) (by rfl) (by rw[bY En.cells 2 En.len]) (Rd.alloc Fy.out (kqb _) _) (cn En.one _) (by unfold maxLen;omega) (by omega) (by rw[kqn];omega) ?_;intro v1 w8 j Fw;have Q:=aM ((kqk W.heap.size W).alloc (kqb _) _) (by simp) (bh (n:=1) (sz:=2) W 89 #[.int .i64 17,.int .u64 ((a:Int)+(z:Int))] (kqb _) (by rfl) (by unfold maxLen;omega)) Fw;have Jd:=hid Q
   refine U.out _ _ ⟨(Q.cell (p:=⟨b,d+k*6,none⟩) J).trans l.1,(Q.cell (p:=⟨b,d+k*6+1,none⟩) J).trans l.2⟩ (λHS4=>?_);have Ge:=hid j;clear U K Gz j Fw Q;simp only[Act.put,kqa,kqg,kqf];have u:=ar Ge.out V.out.size;rw[kxs] at u;obtain⟨A9,c9,rfl⟩:=ap u;have H1:=hid u;clear u;refine tj 16 (.slice A9 (E.length+1) c9) ?_;dsimp only[Act.put,kqh,kqe,kqd,kqa,kqg,kqf];refine tj 17 (.int .i64 0) ?_;dsimp only[Act.put,kqh,kqe,kqd,kqa,kqg,kqf];refine kjd (by kernel_rfl) ?_ _;go_wp2;go_ret2;rw[HV.out];refine⟨⟨A9,c9,rfl,?_⟩,V.out.trans (Jd.out.mono V.out.size)⟩;have h2:=H1.out;rw[<-Gw.out] at h2;exact h2
  rw[if_neg y] at u;exact absurd u y
 have Fv:k=m:=by omega
 have HV:Hid (iK ws f=(0,bG)):=hid (by
  rw[<-Fp.out,Fv,<-HM.out,kk2];rfl)
 have hkd:decide ((k:Int)<(m:Int))=false:=by rw[kqc];omega
 have hkn:decide (k<m)=false:=by rw[kqc];exact Ga
 have HB:=hid (v.out.trans (hB.mono v.out.size));clear Fv hB;go_wp2;go_ret2;rw[HV.out];exact⟨⟨some ⟨wr.heap.size,0,none⟩,3,rfl,bh (n:=3) (sz:=2) wr 89 #[.int .i64 16,.int .u64 4,.int .i64 17,.int .u64 128,.int .i64 18,.int .u64 128] HB.out.size rfl (by unfold maxLen;omega)⟩,HB.out.alloc HB.out.size _⟩
theorem Fh(A:Option Addr)(ws:List Nat)(c n:Nat)(w:World)(hn:ws.length=n)(h:(ac ws).1=0)(hr:RdW w w.heap.size A ws)(ho:∀x∈ws,x<18446744073709551616):
 Calls prog 132 #[.slice A n c] w λe w'=>dx w.heap.size 0 (ac ws).2 e w'/\Below w.heap.size w w':=by
 obtain⟨y,Fy⟩:=BI h;obtain⟨-,hs,S,D⟩:=ch y;have J:=iX y;have hb:=(af _).1 hs;rw[hn] at hb;obtain⟨⟨l1,l2,l3⟩,-⟩:=(aY ws).1 S;have Fr:=hid (ms A ws c n w hn y hr ho);have C:=hid (λW (h:RdW W W.heap.size A ws)=>kN A ws c n W hn J h ho);unfold phV at C;have HR:=hid hr;have V:n<=2048:=by omega
 obtain⟨f,hf⟩:=xq (wd ws 17);obtain⟨t,ht⟩:=xq (wd ws 18);rw[hf,ht] at C D;rw[hf] at Fy l2;rw[ht] at Fy l3;rcases Fy with⟨p1,P,Q⟩|⟨p2,P,Q⟩|⟨p3,X,Gj,Q⟩|⟨p3,X,Gm,Q⟩|⟨p4,m,l,L,Gr,Gi,Gc,Gl,f1,f2,f3,Jd,Q⟩
 .rw[p1] at C;rw[Q];simp only[kqy] at C;have Fu:(aN ws).length<=1024:=by rw[dS P,kzl];have h1:=l7 (seenL ws) (aa ws);have h2:=dl ws;omega
  have F:=hid (λW (h:RdW W W.heap.size A ws)=>uK A ws c n W hn P h ho);unfold dx at F;obtain⟨E,O⟩:=xq (aN ws);rw[O] at F Fu |-;have Fq:=hid (λA1 c1 H W Fo hH=>qc A1 E c1 E.length 2 H W rfl (by omega) (by omega) Fo hH);unfold DE at Fq;clear hr ho h y hs S D J hf ht p1 P Q O hb l1 l2 l3 hn V;go_enter func132,ntmps132;go_wp2_with fail;refine Fr.out.mono ?_;rintro e w1 ⟨rfl,g⟩;have o:=hid g;have v:=hid (HR.out.up g g.size);clear g;go_wp2_with fail;refine (C.out w1 v.out).mono ?_;rintro e w2 ⟨rfl,p⟩;have i:=o.out.trans (p.mono o.out.size);have d:=hid (i.alloc i.size (.cells #[.int .i64 1,.int .i64 (f:Int),.int .i64 (t:Int)] 107));have u:=hid (HR.out.up d.out d.out.size);have Z:=hid (Bx.new w2 107 #[.int .i64 1,.int .i64 (f:Int),.int .i64 (t:Int)]);clear p i;go_wp2_with fail;refine (F.out _ u.out).mono ?_;rintro e R ⟨⟨A3,c3,rfl,a⟩,j⟩;have k:=hid (d.out.trans (j.mono d.out.size));have I:=hid (ar a d.out.size);clear a j;go_wp2_with fail;refine (Fq.out _ _ _ _ I.out k.out.size).mono ?_;rintro e w4 ⟨⟨A4,c4,rfl,r⟩,Fs⟩;have U:=hid (k.out.trans (Fs.mono k.out.size));have Fp:=hid r;clear r Fs;go_wp2;go_ret2;exact⟨⟨A4,c4,rfl,Fp.out⟩,U.out⟩
 .rw[p2] at C;rw[Q];simp only[kqy] at C;have Fu:(aG ws).length<=1024:=(pN P).1;have F:=hid (λW (h:RdW W W.heap.size A ws)=>vP A ws c n W hn P h ho);unfold dx at F;obtain⟨E,O⟩:=xq (aG ws);rw[O] at F Fu |-;have Fq:=hid (λA1 c1 H W Fo hH=>qc A1 E c1 E.length 3 H W rfl (by omega) (by omega) Fo hH);unfold DE at Fq;clear hr ho h y hs S D J hf ht p2 P Q O hb l1 l2 l3 hn V;go_enter func132,ntmps132;go_wp2_with fail;refine Fr.out.mono ?_;rintro e w1 ⟨rfl,g⟩;have o:=hid g;have v:=hid (HR.out.up g g.size);clear g;go_wp2_with fail;refine (C.out w1 v.out).mono ?_;rintro e w2 ⟨rfl,p⟩;have i:=o.out.trans (p.mono o.out.size);have d:=hid (i.alloc i.size (.cells #[.int .i64 2,.int .i64 (f:Int),.int .i64 (t:Int)] 107));have u:=hid (HR.out.up d.out d.out.size);have Z:=hid (Bx.new w2 107 #[.int .i64 2,.int .i64 (f:Int),.int .i64 (t:Int)]);clear p i;go_wp2_with fail;refine (F.out _ u.out).mono ?_;rintro e R ⟨⟨A3,c3,rfl,a⟩,j⟩;have k:=hid (d.out.trans (j.mono d.out.size));have I:=hid (ar a d.out.size);clear a j;go_wp2_with fail;refine (Fq.out _ _ _ _ I.out k.out.size).mono ?_;rintro e w4 ⟨⟨A4,c4,rfl,r⟩,Fs⟩;have U:=hid (k.out.trans (Fs.mono k.out.size));have Fp:=hid r;clear r Fs;go_wp2;go_ret2;exact⟨⟨A4,c4,rfl,Fp.out⟩,U.out⟩
 .rw[p3] at C;rw[Q];simp only[kqy] at C;have G:=hid (λW (h:RdW W W.heap.size A ws)=>AK A ws c n 3 (t:Int) W hn Gj h ho);unfold dx at G;obtain⟨E,O⟩:∃E,(⟨17,128⟩:En)::dd ws=E:=⟨_,rfl⟩;rw[O] at G |-;rw[X] at C;simp only[kqy] at C;clear hr ho h y hs S D J hf ht p3 Gj Q O hb l1 l2 l3 hn V X;go_enter func132,ntmps132;go_wp2_with fail;refine Fr.out.mono ?_;rintro e w1 ⟨rfl,g⟩;have o:=hid g;have v:=hid (HR.out.up g g.size);clear g;go_wp2_with fail;refine (C.out w1 v.out).mono ?_;rintro e w2 ⟨rfl,p⟩;have i:=o.out.trans (p.mono o.out.size);have d:=hid (i.alloc i.size (.cells #[.int .i64 3,.int .i64 0,.int .i64 (t:Int)] 107));have u:=hid (HR.out.up d.out d.out.size);have Z:=hid (Bx.new w2 107 #[.int .i64 3,.int .i64 0,.int .i64 (t:Int)]);clear p i;go_wp2_with fail;refine (G.out _ u.out).mono ?_;rintro e R ⟨⟨A3,c3,rfl,a⟩,j⟩;have k:=hid (d.out.trans (j.mono d.out.size));have I:=hid (ar a d.out.size);clear a j;go_wp2;go_ret2;exact⟨⟨A3,c3,rfl,I.out⟩,k.out⟩
 .rw[p3] at C;rw[Q];simp only[kqy] at C;obtain⟨-,Gt⟩:=ry y;have h0:ag ws=0:=by
   rcases Gt with⟨q,-⟩|⟨-,-,q⟩|⟨q,-⟩
   .omega
   .exact q
   omega
  have Gb:=(dt J).2 p3 (by rw[hf];exact X);rw[hf] at Gb;rw[p3] at D;have Gs:f%2=0:=by
   rcases (b8 _ _ _).1 D with⟨q,-⟩|⟨-,-,q⟩|⟨q,-⟩
   .omega
   .exact ((aQ _).1 (q.resolve_left X)).2.2
   omega
  have G:=hid (λW (h:RdW W W.heap.size A ws)=>D8 A ws c n f 3 (t:Int) W hn h0 X Gb Gs (by omega) Gm h ho);unfold dx at G;obtain⟨E,O⟩:=xq ((iK ws f).2);rw[O] at G |-;clear hr ho h y hs S D J hf ht p3 Gm Q O hb l1 l2 l3 hn V Gs Gb h0 Gt;go_enter func132,ntmps132;go_wp2_with fail;refine Fr.out.mono ?_;rintro e w1 ⟨rfl,g⟩;have o:=hid g;have v:=hid (HR.out.up g g.size);clear g;go_wp2_with fail;refine (C.out w1 v.out).mono ?_;rintro e w2 ⟨rfl,p⟩;have i:=o.out.trans (p.mono o.out.size);have d:=hid (i.alloc i.size (.cells #[.int .i64 3,.int .i64 (f:Int),.int .i64 (t:Int)] 107));have u:=hid (HR.out.up d.out d.out.size);have Z:=hid (Bx.new w2 107 #[.int .i64 3,.int .i64 (f:Int),.int .i64 (t:Int)]);clear p i;go_wp2_with fail;refine (G.out _ u.out).mono ?_;rintro e R ⟨⟨A3,c3,rfl,a⟩,j⟩;have k:=hid (d.out.trans (j.mono d.out.size));have I:=hid (ar a d.out.size);clear a j;go_wp2;go_ret2;exact⟨⟨A3,c3,rfl,I.out⟩,k.out⟩
 rw[p4] at C;rw[Q];simp only[kqy] at C;have Gg:=ax Gc;have Fx:=hid (λW (h:RdW W W.heap.size A ws)=>mh A ws c n f l W hn hs f2 f1 (by omega) Gr h ho);unfold uV at Fx;rw[Gi] at Fx;have Fw:=hid (λW (h:RdW W W.heap.size A ws)=>zB A ws c n m t W hn V (by omega) Gc Gl h);unfold DE at Fw;have Fu:(iG ws m t).length<=2048:=by rw[gn];omega
 have eb:qM (bkAt ws m)=.agg #[.int .i64 (m:Int),.int .i64 ((szAt ws m:Nat):Int),.int .i64 (bkAt ws m).kind,.int .i64 (bkAt ws m).typ,.bool (bkAt ws m).mark,.int .u64 ((bkAt ws m).next:Int)]:=rfl;rw[eb] at Fw;have ec:(bkAt ws m).cells=[.int .i64 (m:Int),.int .i64 ((szAt ws m:Nat):Int),.int .i64 (bkAt ws m).kind,.int .i64 (bkAt ws m).typ,.bool (bkAt ws m).mark,.int .u64 ((bkAt ws m).next:Int)]:=rfl;have Gx:Hid (∀W B,RdB W W.heap.size B (bkAt ws m::L)->∃b s,B=some ⟨b,s,none⟩/\b<W.heap.size/\W.cell? ⟨b,s+0*6,none⟩=some (.int .i64 (m:Int))/\W.cell? ⟨b,s+0*6+1,none⟩=some (.int .i64 ((szAt ws m:Nat):Int))/\W.cell? ⟨b,s+0*6+2,none⟩=some (.int .i64 (bkAt ws m).kind)/\W.cell? ⟨b,s+0*6+3,none⟩=some (.int .i64 (bkAt ws m).typ)/\W.cell? ⟨b,s+0*6+4,none⟩=some (.bool (bkAt ws m).mark)/\W.cell? ⟨b,s+0*6+5,none⟩=some (.int .u64 ((bkAt ws m).next:Int))):=hid λW B hB=>by
  obtain⟨b,s,e,Gv,q0,q1,q2,q3,q4,q5⟩:=RdB.at_ hB (show 0<(bkAt ws m::L).length by simp);exact⟨b,s,e,Gv,q0,q1,q2,q3,q4,q5⟩
 have Gn:=hid (show (((m+szAt ws m:Nat)):Int)=(m:Int)+((szAt ws m:Nat):Int) by omega);have Gp:=hid (show (((t+szAt ws m:Nat)):Int)=(t:Int)+((szAt ws m:Nat):Int) by omega);obtain⟨z,hz⟩:=xq (szAt ws m);obtain⟨K,hK⟩:=xq ((bkAt ws m).kind);obtain⟨T,hT⟩:=xq ((bkAt ws m).typ);obtain⟨M,hM⟩:=xq ((bkAt ws m).mark);obtain⟨N,hN⟩:=xq ((bkAt ws m).next);obtain⟨E,O⟩:=xq (iG ws m t);rw[hz,hK,hT,hM,hN,O] at Fw;rw[hz,hK,hT,hM,hN] at Gx;rw[hz] at Gn Gp Gg |-;rw[O] at Fu |-;have waz:IntKind.i64.wrap ((m:Int)+(z:Int))=(m:Int)+(z:Int):=kqo _ (by omega);have wuz:IntKind.i64.wrap ((t:Int)+(z:Int))=(t:Int)+(z:Int):=kqo _ (by omega);have wav:IntKind.u64.wrap ((m:Int)+(z:Int))=(m:Int)+(z:Int):=kzi _ (by omega);have wuv:IntKind.u64.wrap ((t:Int)+(z:Int))=(t:Int)+(z:Int):=kzi _ (by omega);have Fv:∃LL,(bkAt ws m::L).length=LL:=⟨_,rfl⟩;obtain⟨LL,Fv⟩:=Fv;have hLp:(0:Int)<(LL:Int):=by rw[<-Fv];simp
 have hLq:((LL:Int)==0)=false:=by rw[kqi];omega
 have hLqn:(LL==0)=false:=by rw[kqi];omega
 rw[Fv] at Fx;obtain⟨i0,hi,Gk,Gw,Gf⟩:=kze bB;have HI:=hid hi;have Ja:=hid Gk;have Gy:=hid Gw;have Jc:=hid Gf;clear hi Gk Gw Gf;clear hr ho h y hs S D J hf ht p4 Q O hb l1 l2 l3 hn V Gg eb ec hz hK hT hM hN Gr Gi Gc Gl f1 f2 f3 Jd Fv;go_enter func132,ntmps132;go_wp2_with fail;refine Fr.out.mono ?_;rintro e w1 ⟨rfl,g⟩;have o:=hid g;have v:=hid (HR.out.up g g.size);clear g;go_wp2_with fail;refine (C.out w1 v.out).mono ?_;rintro e w2 ⟨rfl,p⟩;have i:=o.out.trans (p.mono o.out.size);have d:=hid (i.alloc i.size (.cells #[.int .i64 4,.int .i64 (f:Int),.int .i64 (t:Int)] 107));have u:=hid (HR.out.up d.out d.out.size);have Z:=hid (Bx.new w2 107 #[.int .i64 4,.int .i64 (f:Int),.int .i64 (t:Int)]);clear p i;go_wp2_with fail;obtain⟨p0,p1,p2,-⟩:=Z.out.c3;refine (Fx.out _ u.out).mono ?_;rintro e R ⟨⟨LB,dL,rfl,a⟩,j⟩;obtain⟨b,s,rfl,Gv,q0,q1,q2,q3,q4,q5⟩:=Gx.out R LB (show RdB R R.heap.size LB _ from Rd.of_own a);have Ft:=d.out.trans (j.mono d.out.size);simp only[kkz,kz6] at q0 q1 q2 q3 q4 q5;obtain⟨-,-,-,-,-,-,pl⟩:=(Z.out.up j Z.out.lt).c3;obtain⟨-,-,p2,-⟩:=((Z.out.up j Z.out.lt).alloc (.cells #[.int .i64 (m:Int),.int .i64 (z:Int),.int .i64 K,.int .i64 T,.bool M,.int .u64 (N:Int)] 55)).c3
 obtain⟨-,-,r2,-⟩:=(((Z.out.up j Z.out.lt).alloc (.cells #[.int .i64 (m:Int),.int .i64 (z:Int),.int .i64 K,.int .i64 T,.bool M,.int .u64 (N:Int)] 55)).alloc (.cells #[.int .i64 17,.int .u64 ((m:Int)+(z:Int)),.int .i64 18,.int .u64 ((t:Int)+(z:Int))] 89)).c3;obtain⟨s0,s1,s2,s3,s4,s5,-⟩:=(Bx.new R 55 #[.int .i64 (m:Int),.int .i64 (z:Int),.int .i64 K,.int .i64 T,.bool M,.int .u64 (N:Int)]).c6;obtain⟨t0,t1,t2,t3,t4,t5,-⟩:=((Bx.new R 55 #[.int .i64 (m:Int),.int .i64 (z:Int),.int .i64 K,.int .i64 T,.bool M,.int .u64 (N:Int)]).alloc (.cells #[.int .i64 17,.int .u64 ((m:Int)+(z:Int)),.int .i64 18,.int .u64 ((t:Int)+(z:Int))] 89)).c6;have U:=hid ((Ft.alloc Ft.size (.cells #[.int .i64 (m:Int),.int .i64 (z:Int),.int .i64 K,.int .i64 T,.bool M,.int .u64 (N:Int)] 55)).alloc (kzv Ft.size (by simp)) (.cells #[.int .i64 17,.int .u64 ((m:Int)+(z:Int)),.int .i64 18,.int .u64 ((t:Int)+(z:Int))] 89));have Gh:=hid (((kqk R.heap.size R).alloc (kqb _) (.cells #[.int .i64 (m:Int),.int .i64 (z:Int),.int .i64 K,.int .i64 T,.bool M,.int .u64 (N:Int)] 55)).alloc (by simp) (.cells #[.int .i64 17,.int .u64 ((m:Int)+(z:Int)),.int .i64 18,.int .u64 ((t:Int)+(z:Int))] 89))
 have Fp:=hid (ar (bh (n:=2) (sz:=2) (R.alloc (.cells #[.int .i64 (m:Int),.int .i64 (z:Int),.int .i64 K,.int .i64 T,.bool M,.int .u64 (N:Int)] 55)) 89 #[.int .i64 17,.int .u64 ((m:Int)+(z:Int)),.int .i64 18,.int .u64 ((t:Int)+(z:Int))] (kqb _) (by rfl) (by unfold maxLen;omega)) (show R.heap.size<=_ by simp));have Gz:=hid (HR.out.up U.out U.out.size);have k:=hid Ft;clear j Ft a;go_wp2_with fail;refine (Fw.out _ Gz.out).mono ?_;rintro e w6 ⟨⟨A6,c6,rfl,Y⟩,Ga⟩;have Fz:=hid (Gh.out.trans (Ga.mono Gh.out.size));have Gd:=hid (ae Fp.out Ga (kqb _));have Jb:=hid (show RdE w6 w6.heap.size A6 E from Rd.of_own Y);clear Ga Y;rw[kqn] at Gd;go_wp2_with (at_builtin;refine aI _ (by rfl) _ _ 26 rfl R.heap.size 89 i0 _ 2 16 underlying26 HI.out Ja.out Gy.out Jc.out rfl (by decide) _ 2 _ (by rfl) Gd.out w6.heap.size A6 E.length c6 (E.flatMap En.cells) (by rfl) (by rw[bY En.cells 2 En.len]) Jb.out (cn En.one _) (by unfold maxLen;omega) (by omega) Fz.out.size ?_;intro v1 wa Eq Ge;have Gu:=aM Fz.out Fz.out.size Gd.out Ge;have Gq:=hid Eq;have Je:=hid Gu;clear Eq Gu Ge);have h1:=ar Gq.out k.out.size;rw[kxs] at h1;obtain⟨A9,c9,rfl⟩:=ap h1;have H1:=hid h1;clear h1;go_ret2;refine⟨⟨A9,c9,rfl,?_⟩,k.out.trans (Je.out.mono k.out.size)⟩;have h2:=H1.out;rw[<-Gn.out,<-Gp.out] at h2;exact h2
theorem A8(A:Option Addr)(ws:List Nat)(c n:Nat)(w:World)(hn:ws.length=n)(hck:aw ws=0)(h:wd ws 16=0\/wd ws 16=4/\dX ws=0)(hr:RdW w w.heap.size A ws)(ho:∀x∈ws,x<18446744073709551616):
 Calls prog 132 #[.slice A n c] w λe w'=>e=.returned (.tuple #[.slice none 0 0,.int .i64 6])/\Below w.heap.size w w':=by
 obtain⟨-,y,-,-⟩:=ch hck;have o:=iX hck;have r:=hid (ms A ws c n w hn hck hr ho);have k:=hid (λW (h:RdW W W.heap.size A ws)=>kN A ws c n W hn o h ho);unfold phV at k;have u:=hid hr;obtain⟨t,C⟩:=xq (wd ws 18);rw[C] at k;rcases h with h|⟨h,H⟩
 .rw[h] at k;obtain⟨f,p⟩:=xq (wd ws 17);rw[p] at k;(try simp only[kqy] at k);clear hr ho hck y o p C h hn;go_enter func132,ntmps132;go_wp2_with fail;refine r.out.mono ?_;rintro e B ⟨rfl,a⟩;have i:=hid a;have m:=hid (u.out.up a a.size);clear a;go_wp2_with fail;refine (k.out B m.out).mono ?_;rintro e z ⟨rfl,g⟩;have d:=i.out.trans (g.mono i.out.size);have b:=hid (d.alloc d.size (.cells #[.int .i64 0,.int .i64 (f:Int),.int .i64 (t:Int)] 107));have q:=hid (u.out.up b.out b.out.size);have I:=hid (Bx.new z 107 #[.int .i64 0,.int .i64 (f:Int),.int .i64 (t:Int)]);clear g d;go_wp2;go_ret2;exact⟨rfl,b.out⟩
 obtain⟨l,E,D,G,F,J⟩:=xR H;have j:=hid (λW (h:RdW W W.heap.size A ws)=>mh A ws c n (wd ws 17) l W hn y F G (by omega) E h ho);rw[D] at j;unfold uV at j;simp only[kxc] at j;obtain⟨f,p⟩:=xq (wd ws 17);rw[h,p] at k;rw[p] at j;(try simp only[kqy] at k);clear hr ho hck y o p C h H E D G F J hn;go_enter func132,ntmps132;go_wp2_with fail;refine r.out.mono ?_;rintro e B ⟨rfl,a⟩;have i:=hid a;have m:=hid (u.out.up a a.size);clear a;go_wp2_with fail;refine (k.out B m.out).mono ?_;rintro e z ⟨rfl,g⟩;have d:=i.out.trans (g.mono i.out.size);have b:=hid (d.alloc d.size (.cells #[.int .i64 4,.int .i64 (f:Int),.int .i64 (t:Int)] 107));have q:=hid (u.out.up b.out b.out.size);have I:=hid (Bx.new z 107 #[.int .i64 4,.int .i64 (f:Int),.int .i64 (t:Int)]);clear g d;go_wp2_with fail;refine (j.out _ q.out).mono ?_;rintro e w3 ⟨⟨LB,dL,rfl,-⟩,s⟩;have v:=hid (b.out.trans (s.mono b.out.size));clear s;go_wp2;go_ret2;exact⟨rfl,v.out⟩
theorem AU(A:Option Addr)(ws:List Nat)(c n:Nat)(w:World)(hn:ws.length=n)(h:(cJ ws).1=0)(hr:RdW w w.heap.size A ws)(ho:∀x∈ws,x<18446744073709551616):
 Calls prog 86 #[.slice A n c] w λe w'=>rT w.heap.size 0 (cJ ws).2.1 (cJ ws).2.2 e w'/\Below w.heap.size w w':=by
 have G:=hid hr;by_cases y:(ac ws).1=6
 .obtain ⟨l,t⟩:=nx_six h y;have s:=iX l;have b:=hid (A8 A ws c n w hn l (by rcases t with⟨q,-⟩|⟨q,M,-⟩;exact .inl q;exact .inr ⟨q,M⟩) hr ho);have g:=hid (λW (h:RdW W W.heap.size A ws)=>kN A ws c n W hn s h ho);unfold phV at g;rcases t with⟨q,m⟩|⟨q,J,m⟩
  .rw[m];rw[q] at g;generalize wd ws 17=F at g;generalize wd ws 18=T at g;(try simp only[kqy] at g);clear hr ho l s h y m q hn;unfold rT;go_enter func86,ntmps86;go_wp2_with fail;refine b.out.mono ?_;rintro e H ⟨rfl,a⟩;have k:=hid a;have o:=hid (G.out.up a a.size);clear a;go_wp2_with fail;refine (g.out _ o.out).mono ?_;rintro e N ⟨rfl,j⟩;have u:=hid (k.out.trans (j.mono k.out.size));clear j;go_wp2;go_ret3;exact⟨⟨none,0,rfl,kq1 _ _ _ _⟩,u.out.alloc u.out.size _⟩
  have p:=hid (λW (h:RdW W W.heap.size A ws)=>vw A ws c n W hn J h ho);unfold dx at p;rw[m];rw[q] at g;generalize wd ws 17=F at g;generalize wd ws 18=T at g;generalize dj ws=Z at p;(try simp only[kqy] at g);clear hr ho l s h y m q hn J;unfold rT;go_enter func86,ntmps86;go_wp2_with fail;refine b.out.mono ?_;rintro e H ⟨rfl,a⟩;have k:=hid a;have o:=hid (G.out.up a a.size);clear a;go_wp2_with fail;refine (g.out _ o.out).mono ?_;rintro e N ⟨rfl,j⟩;have r:=k.out.trans (j.mono k.out.size);have f:=hid (r.alloc r.size (.cells #[.int .i64 4,.int .i64 (F:Int),.int .i64 (T:Int)] 107));have D:=hid (G.out.up f.out f.out.size);clear j r;go_wp2_with fail;refine (p.out _ D.out).mono ?_;rintro e w3 ⟨⟨P,L,rfl,d⟩,v⟩;have z:=hid (f.out.trans (v.mono f.out.size));have C:=hid (ar d f.out.size);clear v d;go_wp2;go_ret3;exact⟨⟨P,L,rfl,C.out⟩,z.out⟩
 obtain⟨I,m⟩:=nx_one h y;have b:=hid (Fh A ws c n w hn I hr ho);unfold dx at b;rw[m];generalize (ac ws).2=E at b;clear hr ho y m I h hn;unfold rT;go_enter func86,ntmps86;go_wp2_with fail;refine b.out.mono ?_;rintro e H ⟨⟨O,K,rfl,i⟩,a⟩;have B:=hid i;clear i;go_wp2;go_ret3;exact⟨⟨O,K,rfl,B.out⟩,a⟩
def C3 (ws:List Nat) (H:Nat) (e:Ending) (w':World):Prop:=∃(L:List Ch) (B:Option Addr) (d g c:Nat),e=.returned (.tuple #[.slice B L.length d,.slice (some ⟨g,0,none⟩) ws.length c,.int .i64 0])/\L.map Ch.l=(fH ws).2.1/\OwnC w' H B d L /\
 (fH ws).2.2.length=ws.length/\w'.ownsRow H 53 1 (.slice (some ⟨g,0,none⟩) ws.length c) ws.length ((fH ws).2.2.flatMap au)
theorem Dk(A:Option Addr)(ws:List Nat)(c n:Nat)(w:World)(hn:ws.length=n)(u:(fH ws).1=0)(hr:RdW w w.heap.size A ws)(ho:∀x∈ws,x<18446744073709551616):
 Calls prog 113 #[.slice A n c] w λe w'=>C3 ws w.heap.size e w'/\Below w.heap.size w w':=by
 subst hn;have HR:=hid hr;have Z:aw ws=0:=by
  by_cases Z:aw ws=0
  .exact Z
  unfold fH at u;rw[if_neg Z] at u;exact absurd u Z
 obtain⟨-,hs,-,-⟩:=ch Z;have hb:=(af _).1 hs;have C:=hid (show fH ws=rsE ws by unfold fH;rw[if_pos Z]);have Ft:=hid (λP B x E c d W (hx:x.length=ws.length) (hE:Small ws.length E) (h:RdW W W.heap.size P x) (h2:RdE W W.heap.size B E)=>zU P B x E c d ws.length E.length W.heap.size W hx rfl (by omega) (by omega) (by have:=hE.le;omega) h h2 (kqb _));unfold OwnW at Ft;have Fr:=hid (λP x c2 W (hx:x.length=ws.length) (h1:(cJ x).1=0) (hox:∀v∈x,v<18446744073709551616) (h:RdW W W.heap.size P x)=>AU P x c2 ws.length W hx h1 h hox);unfold rT at Fr;have p:=hid (f8 ho);have HO:=hid ho;have HZ:=hid (show (rsE ws).1=0 by rw[<-C.out];exact u);have hlen:ws.length<=2048:=by omega
 have h16:16<ws.length:=by omega
 have hmz:rzM ws<=3000:=by have:=y7 hs;omega
 obtain⟨i2,hj,Fz,Fy,Eq⟩:=kze pq;have HJ:=hid hj;have Gh:=hid Fz;have Gu:=hid Fy;have Gi:=hid Eq;obtain⟨i0,hi,Fx,Gf,Fo⟩:=kze lZ;have HI:=hid hi;have Gl:=hid Fx;have Gj:=hid Gf;have Gp:=hid Fo;clear hi Fx Gf Fo;clear Z hs hb hr ho u hj Fz Fy Eq;go_enter func113,ntmps113;go_wp2_with (at_builtin;refine aI _ (by rfl) _ _ 22 rfl w.heap.size 53 i0 _ 1 8 underlying22 HI.out Gl.out Gj.out Gp.out rfl (by decide) (.slice (some ⟨w.heap.size,0,none⟩) 0 0) 0 [] (by rfl) (fm w _ _ _ (kqb _)) w.heap.size (A) (ws.length) _ (ws.flatMap au) (by rfl) (by rw[ki];omega) (Rd.alloc (HR.out) (kqb _) _) (cn lP _) (by unfold maxLen;omega) (by omega) (by simp) ?_;intro v1 wa a f;have Ge:=aM ((kqk w.heap.size w).alloc (kqb _) _) (by simp) (fm w w.heap.size 53 1 (kqb _)) f;simp only[kx5,kz5] at a;obtain⟨ga,ca,rfl⟩:=jw a (by omega);have Ga:=hid a;have Gx:=hid Ge;clear a Ge f)
 go_loopg [0,5] (rzM ws+1) (λgk vx vo wr=>∃(x:List Nat) (L:List Ch) (g cx:Nat),vx=.slice (some ⟨g,0,none⟩) ws.length cx/\x.length=ws.length/\Hid (∀v∈x,v<18446744073709551616)/\Hid (rzM x<gk)/\Hid (kL ws (L.map Ch.l) x)/\L.length+gk<=rzM ws+1/\wr.ownsRow w.heap.size 53 1 (.slice (some ⟨g,0,none⟩) ws.length cx) ws.length (x.flatMap au)/\wr.ownsRow w.heap.size 26 1 vo L.length (L.flatMap Ch.cells)/\Hid (∀y∈L,wr.ownsRow w.heap.size 89 2 (.slice y.A y.l.length y.c) y.l.length (y.l.flatMap En.cells))/\Below w.heap.size w wr)
 case atStart=>exact⟨ws,[],ga,ca,rfl,rfl,HO.out,kj5 _,p.out,by simp,Ga.out,kq1 _ _ _ _,λy k=>absurd k (by simp),Gx.out⟩
 obtain⟨x,L,g,cx,rfl,S,V,Gz,N,hLg,j,s,Fq,hB⟩:=hrel;have u:=hB.size;have K:=hid j;have Fp:=hid s;have HB:=hid hB;have H:=hid S;have Gn:=hid u;have t:(cJ x).1=0:=by
  by_cases h1:(cJ x).1=0
  .exact h1
  have:=qY N.out h1;have h2:=HZ.out;rw[this] at h2;exact absurd h2 h1
 have X:=hid (Fr.out (some ⟨g,0,none⟩) x cx wr S t V.out (Rd.of_own j));have p:=hid (λhd=>ot N.out V.out t hd);have Gb:=hid (λhd=>qn N.out t hd);have M:=hid (λhd=>v9 V.out t hd);obtain⟨dn,T⟩:=xq ((cJ x).2.1);obtain⟨E,hE⟩:=xq ((cJ x).2.2);rw[T,hE] at X;rw[T] at Gb p M;rw[hE] at p M;clear hE T j s hB S u t;cases dn with
 | true =>have HV:=hid (Gb.out rfl);go_wp2_with fail;refine X.out.mono ?_;rintro e w3 ⟨⟨A3,c3,rfl,-⟩,b⟩;have D:=hid (HB.out.trans (b.mono HB.out.size));have I:=hid (ae K.out b (kqb _));have i:=hid (ae Fp.out b (kqb _));have G:=hid (λy k=>ae (Fq.out y k) b (kqb _));clear b;obtain⟨Bv,dv,rfl⟩:=ap i.out;go_wp2;go_ret3;exact⟨⟨L,Bv,dv,g,cx,rfl,by rw[C.out,HV.out],⟨i.out,G.out⟩,by rw[C.out,HV.out];exact H.out,by rw[C.out,HV.out];exact I.out⟩,D.out⟩
 | false =>
  have Y:=p.out rfl;obtain⟨F,Q,R⟩:=M.out rfl;rw[H.out] at F;have U:=hid (λP B c d W h h2=>Ft.out P B x E c d W H.out F h h2);have J:(aj x E).length=ws.length:=by rw[aE];exact H.out
  (try rw[J] at U);obtain⟨y,k⟩:=xq (aj x E);rw[k] at Y Q R U J;have Fv:=hid Y;have Fs:=hid Q;have Fw:=hid R;have Gm:=hid J;have hEl:E.length<=32:=F.le;clear Y F Q R J k;go_wp2_with fail;refine X.out.mono ?_;rintro e w3 ⟨⟨A3,c3,rfl,m⟩,b⟩;have D:=hid (HB.out.trans (b.mono HB.out.size));have I:=hid (ae K.out b (kqb _));have i:=hid (ae Fp.out b (kqb _));have G:=hid (λy k=>ae (Fq.out y k) b (kqb _));have Gc:=hid (ar m Gn.out);have Gs:=D.out.size;clear b m;go_wp2_with (at_builtin;refine kq9 _ rfl _ _ 34 rfl w.heap.size 26 i2 _ 1 24 underlying34 HJ.out Gh.out Gu.out Gi.out rfl (by decide) _ _ _ rfl (i.out.alloc _) ⟨_,0,none⟩ 1 1 [.slice A3 E.length c3] rfl rfl (bn _ _ _) (by simp[Value.oneCell']) (by unfold maxLen;omega) (by omega) (by simp;omega) ?_;intro v1 w4 a f _;have Gd:=am D.out Gs i.out f;have Gt:=hid (cB (I.out.alloc _) f (gK I.out i.out (by decide)));have Fu:=hid (cB (Gc.out.alloc _) f (gK Gc.out i.out (by decide)));have Gv:=hid (λy k=>cB ((G.out y k).alloc _) f (gK (G.out y k) i.out (by decide)));have O:=hid Gd;have Ja:=hid a;clear Gd a f)
  refine (U.out _ _ _ _ _ (Rd.of_own Gt.out) (Rd.of_own Fu.out)).mono ?_;rintro e w5 ⟨g5,c5,rfl,q,o⟩;have Gw:=hid (O.out.trans (o.mono O.out.size));have Gq:=hid (ar q O.out.size);have Gr:=hid (ae Ja.out o (kqb _));have Gk:=hid (ae Fu.out o (kqb _));have Gy:=hid (λy k=>ae (Gv.out y k) o (kqb _));clear q o;go_wp2_with fail;have Gg:=Gz.out;go_roundg (rzM x)
  case rel =>
   refine⟨y,L++[⟨A3,c3,E⟩],g5,c5,rfl,Gm.out,Fs.out,Fw.out,?_,?_,Gq.out,?_,?_,Gw.out⟩
   .rw[kxu];exact Fv.out
   .rw[kqz];show L.length+1+_<=_;omega
   .have h5:=Gr.out;rw[kqz,kz0];exact h5
   intro z u;rcases kzt.1 u with h6|h6
   .exact Gy.out z h6
   rw[kq7] at h6;subst h6;exact Gk.out
  case measure=>exact Gg
end Go.Proofs.YtpcajamacpbjcaaGreat
