/- TopCompact: a device that went down, replayed. Plain. -/
import Derived.Test.YtpcajamacpbjcaaGreatZGE
set_option maxHeartbeats 16000000
set_option linter.all false
namespace Go.Proofs.YtpcajamacpbjcaaGreat
open Go.RowKit
variable {x:Dv}{u y:List Nat}
def Cmt (u:List Nat) (E:List En):Prop:=E=[]/\wd u 24=0\/Small u.length E/\wd u 24=cmW E/\∀k,k<2*E.length->wd u (32+k)=wd (bM E) k
def rJ (u:List Nat) (E:List En):List Nat:=(ai u E).set 24 0
theorem rH(u:List Nat)(E:List En):(rJ u E).length=u.length:=by unfold rJ;rw[kq3,au]
theorem rpl_jn(u:List Nat)(E:List En):Jn (ai u E) (rJ u E):=⟨by rw[rH,au],λj a _=>by unfold rJ wd;rw[kx0 (Ne.symm a)]⟩
theorem GO{E:List En}(h:∀v∈u,v<18446744073709551616)(he:∀e∈E,e.v<18446744073709551616):∀v∈rJ u E,v<18446744073709551616:=Hr (oU E u h he) (by decide)
theorem zH(h:wd u 24=0)(hl:24<u.length):rJ u []=u:=by unfold rJ;rw[show ai u []=u from rfl];unfold wd at h;rw[kql hl,kq5] at h;rw[<-h,List.set_getElem_self]
theorem put_at:∀(E:List En) {j:Nat} {z c:List Nat},z.length=c.length->j<z.length->(wd z j=wd c j\/∃e∈E,e.a=(j:Int))->wd (ai z E) j=wd (ai c E) j:=by
 intro E
 induction E with
 | nil=>intro j z c _ _ h;exact h.elim id λ⟨_,h,_⟩=>absurd h (by simp)
 | cons e E ih =>
  intro j z c f i h;simp only[ai];refine ih (by split<;>split<;>simp[f]) (by split<;>simp[i]) ?_;by_cases g:∃x∈E,x.a=(j:Int)
  .exact .inr g
  refine .inl ?_;rw[nh,nh,<-f];by_cases k:e.a=(j:Int)
  .rw[if_pos (by omega),if_pos (by omega)]
  rw[if_neg (by omega),if_neg (by omega)];rcases h with h|⟨x,b,d⟩
  .exact h
  rcases kqw.1 b with rfl|b
  .exact absurd d k
  exact absurd ⟨x,b,d⟩ g
theorem Dm(z:List Nat)(E:List En):Jn (ai z E) (ai (ai z E) E):=by
 refine⟨by rw[au],λj _ _=>?_⟩;by_cases c:j<z.length
 .refine put_at E (au _ _) (by rw[au];exact c) ?_;by_cases b:∃x∈E,x.a=(j:Int)
  .exact .inr b
  exact .inl (aP _ _ _ λe d h=>b ⟨e,d,h⟩)
 unfold wd;rw[kzc (by rw[au,au];omega),kzc (by rw[au];omega)]
theorem ls_put:∀(l:List Nat) {a:Nat} {x:List Nat},a+l.length<=x.length->∀k,k<l.length->wd (ai x (lsE (a:Int) l)) (a+k)=wd l k:=by
 intro l
 induction l with
 | nil=>intro a x _ k b;simp at b
 | cons v l ih =>
  intro a x h k b;rw[kq2] at h b;have e:ai x (lsE (a:Int) (v::l))=ai (x.set a v) (lsE ((a+1:Nat):Int) l):=by simp only[lsE,ai];rw[if_pos (by omega),kqj];rfl
  rw[e];cases k with
  | zero =>rw[aP _ _ _ λe c=>by have:=oh l (a+1) (n:=x.length) (by omega) e c;omega];unfold wd;rw[kxa,kz4 (by omega)];rfl
  | succ k =>rw[show a+(k+1)=a+1+k by omega,ih (by rw[kq3];omega) k (by omega)];rfl
theorem AE{n:Nat}{x0:List Nat}(h:CrAt n x0 y x)(h0:de x0=(0,true,[]))(hx0:∀v∈x0,v<18446744073709551616)(hlt:∀v∈x.im,v<18446744073709551616):∃E,Cmt x.im E/\(E=[]/\Jn x0 (rJ x.im E)\/∃L p,f9 (rJ x.im E)=(0,L,p)/\Jn y p):=by
 have s:=h;obtain⟨d,E,outs,j,c,B,H,e⟩:=h;have F:=ie c.ok;have g:=c.w24;rw[B.v] at g;have r:x.im.length=d.im.length:=by
  rw[e];generalize (atL E).take j=Q;generalize d.im=z
  induction Q generalizing z with
  | nil=>rfl
  | cons q Q ih=>rw[kxv,ih,au]
 rcases AP F c.small.le c.small.pos (λe b=>by have:=c.small.ins e b;omega) H g with⟨-,-,h1⟩|⟨h2,h1,-⟩
 .rw[<-e] at h1;have t:=zH h1 (by omega);refine⟨[],.inl ⟨rfl,h1⟩,?_⟩;rw[t];exact (JF s h0 hx0 hlt h1).imp (λh=>⟨rfl,h⟩) id
 rw[<-e] at h1;have hw:=fS E;have h32:=c.small.le;have w:∀e∈lsE 32 (bM E),32<=e.a/\e.a<96:=λe b=>by
  have:=oh (bM E) 32 (n:=256) (by omega) e b;omega
 obtain⟨i,f⟩:∃u,ai (ai d.im (lsE 32 (bM E))) [⟨24,cmW E⟩]=u:=⟨_,rfl⟩;have hl2:i.length=d.im.length:=by rw[<-f,au,au]
 have l:Jn d.im i:=by rw[<-f];exact (sZ λe b=>.inr (w e b)).trans (sZ λe b=>by rw[kqy] at b;subst b;exact .inl rfl)
 have m:∀k,k<2*E.length->wd i (32+k)=wd (bM E) k:=λk D=>by
  rw[<-f,aP _ _ _ λe b=>by rw[kqy] at b;subst b;dsimp only;omega];exact ls_put (bM E) (a:=32) (by omega) k (by omega)
 have C:(wd x.im 24=cmW E->∀k,k<2*E.length->wd x.im (32+k)=wd (bM E) k)/\Jn (ai d.im E) (ai x.im E):=by
  rcases (show j=2\/j=3 by omega) with rfl|rfl
  .have o:x.im=i:=by rw[e,<-f];rfl
   rw[o];exact⟨λ_=>m,l.puts E⟩
  have o:x.im=ai i E:=by rw[e,<-f];rfl
  rw[o];refine⟨λ_ k D=>?_,(l.puts E).trans (Dm i E)⟩;rw[aP _ _ _ λe b=>by have:=c.small.ins e b;omega];exact m k D
 refine⟨E,.inr ⟨by rw[r,c.len];exact c.small,h1,C.1 h1⟩,.inr ?_⟩;obtain⟨z,A,I,G,-⟩:=c.way;rw[B.v] at A;obtain⟨p,J,o⟩:=we _ (((A.puts E).trans C.2).trans (rpl_jn _ E)) I (GO hlt c.small.val) G;exact⟨_,p,lk J,o⟩
theorem qS{x:List Nat}{L:List (List En)}(h:f9 x=(0,L,y)):ax x=0:=by
 unfold f9 at h;by_cases a:ax x=0
 .exact a
 rw[if_neg a] at h;exact congrArg Prod.fst h
theorem AX{ws:List Nat}{t:Nat}(h:Lay ws t)(ho:∀v∈ws,v<18446744073709551616){left:Int}(h1 : -1<=left)(h2:left<=1000000){f:Int}(e:coR ⟨ws,[],left,false⟩=(x,f)):
 (f=0\/f=60)/\x.im.length=ws.length/\(∀v∈x.im,v<18446744073709551616)/\∃E,Cmt x.im E/\(∀v∈rJ x.im E,v<18446744073709551616)/\ax (rJ x.im E)=0/\∃L y,f9 (rJ x.im E)=(0,L,y)/\y.length=ws.length/\(f=60/\(∀j,96<=j->wd y j=wd ws j)\/∀j,96<=j->wd y j=wd (cpZ ws) j):=by
 have u:=run_of h ho h1 h2;rw[e] at u;obtain⟨w,d,s,B,q⟩:=u;dsimp only at w d s B q;refine⟨q.imp (λh=>h.1) (λh=>h.1),s,d.im,?_⟩;have k:=qP h ho;have hb:=ie w;rcases q with⟨-,-,-,g,m⟩|⟨D,-,p⟩
 .have o:rsE (cpZ ws)=(0,[],cpZ ws):=by have:=gi (kC ho) (h.all ho);have n:=uG (kC ho) this.2.1;exact ii n.2.1 n.2.2
  obtain⟨i,b,a⟩:=we _ g (h.lt ho) d.im o;have r:=lk b;refine⟨[],.inl ⟨rfl,m⟩,?_⟩;rw[zH m (by omega)];exact⟨d.im,qS r,_,i,r,a.1.trans k,.inr λj g=>a.2 j (by omega) (.inr g)⟩
 obtain⟨E,z,C⟩:=AE p (oX h) ho d.im;have l:∀v∈rJ x.im E,v<18446744073709551616:=GO d.im (by
  rcases z with⟨c,-⟩|⟨c,-⟩
  .rw[c];intro e A;exact absurd A (by simp)
  exact c.val)
 refine⟨E,z,l,?_⟩;rcases C with⟨-,n⟩|⟨L,i,b,a⟩
 .obtain ⟨i,b,a⟩:=we [] n ho l (ii (by rw[oX h]) (by rw[oX h]));exact⟨qS (lk b),[],i,lk b,a.1,.inl ⟨D,λj g=>a.2 j (by omega) (.inr (by omega))⟩⟩
 exact⟨qS b,L,i,b,a.1.trans k,.inr λj g=>a.2 j (by omega) (.inr g)⟩
end Go.Proofs.YtpcajamacpbjcaaGreat
