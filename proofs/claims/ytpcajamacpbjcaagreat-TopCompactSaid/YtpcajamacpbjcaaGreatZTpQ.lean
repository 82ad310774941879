/- TopCompact: the phases' changes, and the last one. Plain. -/
import Derived.Test.YtpcajamacpbjcaaGreatZChP
import Derived.Test.YtpcajamacpbjcaaGreatZKCo
set_option maxHeartbeats 16000000
set_option linter.all false
namespace Go.Proofs.YtpcajamacpbjcaaGreat
open Go.RowKit
variable {l:List Bk}{x:List Nat}
noncomputable def vK (x:List Nat):Nat->List Nat
 | 0=>x
 | 1=>x
 | 2=>v1 x
 | 3=>v2 x
 | 4=>v3 x
 | _=>v4 x
noncomputable def oK (x:List Nat):Nat->List (List En)
 | 0=>[]
 | 1=>[]
 | 2=>(cA 1 x).2.1
 | 3=>(cA 1 x).2.1++(cA 2 (v1 x)).2.1
 | 4=>((cA 1 x).2.1++(cA 2 (v1 x)).2.1)++(cA 3 (v2 x)).2.1
 | _=>(((cA 1 x).2.1++(cA 2 (v1 x)).2.1)++(cA 3 (v2 x)).2.1)++(cA 4 (v3 x)).2.1
structure PhAt (x:List Nat) (p:Nat):Prop where
 lt:∀v∈vK x p,v<18446744073709551616
 len:(vK x p).length=x.length
 ln:cU (vK x p)=0
 ph:wd (vK x p) 16=p
 sg:∃o,jy (vK x p)=(0,o,vK x (p+1))/\oK x (p+1)=oK x p++o
theorem Ei{p:Nat}(hck:ax x=0)(hp:wd x 16=p)(h:(cA p x).1=0):jy x=(0,(cA p x).2.1,(cA p x).2.2):=by unfold jy;rw[if_pos hck,hp];obtain⟨⟨a,b,c⟩,d⟩:∃r,cA p x=r:=⟨_,rfl⟩;rw[d] at h |-;dsimp only at h;rw[h]
theorem ph_at(ho:∀v∈x,v<18446744073709551616)(F:CpF x)(p1:wd x 16=1)(hck:ax x=0):∀p,1<=p->p<=4->PhAt x p:=by
 have c:=(gP (p:=1) _ x ho (kqa _) F.e1).2;have a:=(gP (p:=2) _ (v1 x) F.o1 (kqa _) F.e2).2;have b:=(gP (p:=3) _ (v2 x) F.o2 (kqa _) F.e3).2
 change (v1 x).length=_ at c
 change (v2 x).length=_ at a
 change (v3 x).length=_ at b
 rw[c] at a;rw[a] at b;intro p g f
 match p,g,f with
 | 1,_,_=>exact⟨ho,rfl,jz hck,p1,_,Ei hck p1 F.e1,rfl⟩
 | 2,_,_=>exact⟨F.o1,c,jz F.c1,F.p1,_,Ei F.c1 F.p1 F.e2,rfl⟩
 | 3,_,_=>exact⟨F.o2,a,jz F.c2,F.p2,_,Ei F.c2 F.p2 F.e3,rfl⟩
 | 4,_,_ =>
  have e4:vK x 4=v3 x:=by simp only[vK]
  have e:vK x (4+1)=v4 x:=by simp only[vK]
  have d:jy (v3 x)=(0,(cA 4 (v3 x)).2.1,v4 x):=Ei F.c3 F.p3 F.e4;refine⟨?_,?_,?_,?_,(cA 4 (v3 x)).2.1,?_,?_⟩
  .rw[e4];exact F.o3
  .rw[e4];exact b
  .rw[e4];exact jz F.c3
  .rw[e4];exact F.p3
  .rw[e4,e];exact d
  simp only[oK]
def frS:List Bk->Int
 | []=>0
 | b::l=>(if b.kind=2 then b.size else 0)+frS l
theorem tX:∀(a b:List Bk),frS (a++b)=frS a+frS b:=by
 intro a b
 induction a with
 | nil=>simp[frS]
 | cons x a ih=>simp only[kzn,frS,ih];omega
theorem JW:∀ {l:List Bk},(∀b∈l,b.kind=1)->frS l=0:=by
 intro l
 induction l with
 | nil=>intro _;rfl
 | cons x l ih=>intro h;simp only[frS];rw[ih λb a=>h b (by simp[a]),h x (by simp),if_neg (by decide)];rfl
theorem Ht:∀ {l:List Bk},(∀b∈l,b.kind=2->0<=b.size)->0<=frS l:=by
 intro l
 induction l with
 | nil=>intro _;exact kks _
 | cons x l ih =>
  intro h;have:=ih λb a=>h b (by simp[a]);have c:=h x (by simp);simp only[frS];split
  .have:=c (by assumption);omega
  omega
theorem Fv{k:Nat}(hk:k<l.length):frS (l.take (k+1))=frS (l.take k)+(if l[k].kind=2 then l[k].size else 0):=by rw[kqp hk,tX];simp only[frS];omega
theorem frS_le(h:∀b∈l,b.kind=2->0<=b.size)(k:Nat):0<=frS (l.take k)/\frS (l.take k)<=frS l:=by have e:=tX (l.take k) (l.drop k);rw[kxb] at e;have h1:=Ht (l:=l.take k) λb a=>h b (kxp a);have h2:=Ht (l:=l.drop k) λb a=>h b (kxz a);omega
structure PhEnd (ws:List Nat) (X:List Nat):Prop where
 lt:∀v∈X,v<18446744073709551616
 len:X.length=ws.length
 en:dK X=0
 put:ai X (dp X)=cpZ ws
 all:(rsE (dI ws)).2.1=oK (dI ws) 5++[dp X]
 wa:jl (cpZ ws)=0
 few:(iw (cpZ ws)).length<=1024
 fr:frS (iw (cpZ ws))=(frN X:Int)
 sz:∀b∈iw (cpZ ws),(b.kind=2->0<=b.size/\b.size<=2048)
 le:frN X<=2048
theorem ph_end{ws:List Nat}{t:Nat}(h:Lay ws t)(ho:∀v∈ws,v<18446744073709551616):PhEnd ws (vK (dI ws) 5):=by
 have F:=h.run ho;obtain⟨p1,hck,l,-⟩:=h.first;have R:=h.cp ho;obtain⟨o,m⟩:=wa_hp R.lay;obtain⟨-,p⟩:=R.hp;have i:=(ab _).1 h.size;have w:=(aH h.rc).1;obtain⟨-,q,-⟩:=F.mvs l;have hTe:aO (cpL ws) 128=((wd (v4 (dI ws)) 18:Nat):Int):=by rw[<-(Km w).1,<-q,<-F.bl3];exact F.r4.to
 have s:cpT ws=wd (v4 (dI ws)) 18:=by unfold cpT;omega
 obtain⟨-,-,-,-,-,x,-,u⟩:=gn F.en;have a:(v4 (dI ws)).length=ws.length:=by rw[F.r4.len,F.r3.hd.len,F.r2.len,F.r1.len,fv]
 rw[a] at x;have d:frN (v4 (dI ws))=ws.length-cpT ws:=by unfold frN;rw[if_pos F.en,u,a,s]
 rw[p] at m;have g:∀b∈mvB (cpL ws) 128,b.kind=1:=λb i=>by
  obtain⟨b0,-,j,tt,n,-⟩:=re i;rw[n];unfold aR at j;rw[kqu,kqx] at j;exact j.1
 have f:frS (frB ws.length (cpT ws))=((ws.length-cpT ws:Nat):Int)/\∀b∈frB ws.length (cpT ws),0<=b.size/\b.size<=2048:=by
  unfold frB;split
  .rename_i e;rw[e];refine⟨?_,λb i=>absurd i (by simp)⟩;simp[frS]
  refine⟨?_,λb c=>?_⟩
  .simp only[frS];rw[if_pos (show (du (ws.length-cpT ws)).kind=2 from rfl)];show ((ws.length-cpT ws:Nat):Int)+0=_;omega
  rw[kqy] at c;subst c;show (0:Int)<=((ws.length-cpT ws:Nat):Int)/\((ws.length-cpT ws:Nat):Int)<=2048;omega
 refine⟨F.o4,a,F.en,rfl,?_,o,?_,?_,λb c r=>?_,?_⟩
 .rw[F.all];show _=oK (dI ws) 5++[dp (v4 (dI ws))];unfold oK;simp only[kxo]
 .rw[(wa_hp R.lay).2];exact gY _
 .show _=(frN (v4 (dI ws)):Int);rw[m,tX,JW g,f.1,d];omega
 .rw[m] at c;rcases kzo.1 c with k|k
  .rw[g b k] at r;omega
  exact f.2 b k
 show frN (v4 (dI ws))<=2048;rw[d];omega
end Go.Proofs.YtpcajamacpbjcaaGreat
