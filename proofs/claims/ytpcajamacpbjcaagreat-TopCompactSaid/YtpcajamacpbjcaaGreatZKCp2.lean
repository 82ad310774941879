/- Texts laid together: LyQ CpE CpG CpH CpI. -/
import Derived.Test.YtpcajamacpbjcaaGreatZKR19
import Derived.Test.YtpcajamacpbjcaaGreatZKCp1
set_option maxHeartbeats 16000000
set_option linter.all false
namespace Go.Proofs.YtpcajamacpbjcaaGreat
open Go.RowKit
variable {l:List Bk}{w ws z:List Nat}{T a i m t:Nat}
structure Lay (ws:List Nat) (t:Nat):Prop where
 size:ak (ws.length:Int)=true
 ty:tyN ws=some t
 z16:∀i,16<=i->i<32->wd ws i=0
 tys:ix ws t=true
 sls:slsOk ws=true
 hp:aj ws=0
 adj:ky (ah ws)=true
 wr:∀r,7<=r->r<12->∀b∈aM (ah ws),wrK ws (gc ws t 8) (aM (ah ws)) r b=false
 sl:∀i,i<16->jI (aM (ah ws)) (slAt ws i)=true
theorem rb(h:tyN ws=some t):ak (ws.length:Int)=true:=by
 cases a:ak (ws.length:Int) with
 | true=>rfl
 | false=>rw[(ug a).1] at h;cases h
theorem lm(ws:List Nat)(T:List (List Nat))(O:List Bk)(r a z ty:Nat)(k:Int)(mk:Bool)(nx:Nat):wrK ws T O r ⟨(a:Int),(z:Int),k,(ty:Int),mk,nx⟩=wrB ws T O a z ty mk nx r:=by unfold wrK;simp only[kqj]
theorem uQ(ht:t<=8)(hi:i<t):(gc ws t 8)[i]? = some (bq (wd ws (96+2*i)) (wd ws (96+2*i+1))):=by unfold gc;rw[kxg ht,kxh,kql (by rw[kkn];exact hi)];simp
theorem lay_hp(ht:tyN ws=some t)(hl:blocks ws 128=some l)(hty:ix ws t=true)(h8:∀b∈aM l,wrK ws (gc ws t 8) (aM l) 8 b=false):aj ws=0/\ah ws=l:=by
 refine fM (rb ht) hl ?_;rw[kzv];intro b m;by_cases j:b.kind=1
 .have f:b∈aM l:=kzu.2 ⟨m,by rw[kqx];exact j⟩;have h:=h8 b f;obtain⟨a,z,d,nx,mk,e,a1,a2,a3,a4,a5⟩:=ic hl f;rw[jY j];rw[e] at h;rw[lm] at h;have h:(!decide (d<(gc ws t 8).length)||bg (((gc ws t 8)[d]?).getD []).length != z)=false:=h;rw[kzs] at h;have i:=rZ ht;have g:d<t:=by have:=h.1;rw[ra] at this;simp at this;omega
  rw[uQ i g,kq5] at h;have c:=(gQ ws t).1 hty d (by omega);unfold Aa at c;rw[if_pos g] at c;have k:=h.2;rw[kqr] at k;have o:tyA b=96+2*d:=by rw[e];unfold tyA;simp
  have n:b.size=(z:Int):=by rw[e]
  rw[o,c,n,<-k];simp
 rw[eK j]
theorem se(h:lay ws=true):∃t,Lay ws t:=by
 cases a:tyN ws with
 | none=>rw[pM (.inl a)] at h;cases h
 | some t =>
  cases c:blocks ws 128 with
  | none=>rw[pM (.inr c)] at h;cases h
  | some l =>
   obtain⟨g,j,e,r,o,f,n⟩:=(oI a c).1 h;obtain⟨p,d⟩:=lay_hp a c e (λb m=>f 8 (by omega) (by omega) b m);refine⟨t,rb a,a,λi hi1 hi2=>?_,e,r,p,by rw[d];exact o,by rw[d];exact f,λi q=>by
    rw[d];exact n _ (kzx.2 ⟨i,kzi.2 q,rfl⟩)⟩
   rw[jZ] at g j;rcases kq7 i 24 with k|k
   .have:=g (i-16) (by omega);rwa [show 16+(i-16)=i by omega] at this
   have:=j (i-24) (by omega);rwa [show 24+(i-24)=i by omega] at this
section
variable {ws:List Nat} {t:Nat}
theorem Lay.lay(h:Lay ws t):lay ws=true:=by have b:=(ga h.hp).2.2.2;rw[oI h.ty b];refine⟨(jZ _ _).2 λi a=>h.z16 _ (by omega) (by omega),(jZ _ _).2 λi a=>h.z16 _ (by omega) (by omega),h.tys,h.sls,h.adj,h.wr,λs c=>?_⟩;obtain⟨i,a,rfl⟩:=kzx.1 c;exact h.sl i (kzi.1 a)
theorem nd(h0:aj ws=0){v:Nat}:mZ (aM (ah ws)) v=true↔fi ws v:=by
 unfold mZ;rw[kx5];constructor
 .rintro ⟨b,g,e⟩;rw[kqx] at e;obtain⟨i,f⟩:=kzu.1 g;rw[kqx] at f;obtain⟨k,c,rfl⟩:=kq0 i;obtain⟨a,j,h⟩:=mL h0 c f;rw[j,af] at e;obtain rfl:a=v:=by omega
  exact h
 intro d;obtain⟨k,c,e,-⟩:=d.2.2.2.2.2.2;exact⟨bkAt ws v,kzu.2 ⟨by rw[<-e];exact kqn c,by rw[kqx];exact d.2.2.2.2.1⟩,by rw[kqx,af]⟩
theorem Io(ho:fi ws a):bkAt ws a∈aM (ah ws):=by obtain⟨k,b,e,-⟩:=ho.2.2.2.2.2.2;exact kzu.2 ⟨by rw[<-e];exact kqn b,by rw[kqx];exact ho.2.2.2.2.1⟩
theorem Lay.obj(h:Lay ws t)(ho:fi ws a):(ap (wd ws a)).mark=false/\wd ws (a+1)=0/\(ap (wd ws a)).typ.toNat<t/\(gc ws t 8)[(ap (wd ws a)).typ.toNat]? = some (flds ws a)/\szAt ws a=bg (flds ws a).length/\(∀r,7<=r->r<12->wrB ws (gc ws t 8) (aM (ah ws)) a (szAt ws a) (ap (wd ws a)).typ.toNat (ap (wd ws a)).mark (wd ws (a+1)) r=false):=by
 have m:=Io ho;have k:bkAt ws a=⟨(a:Int),((szAt ws a:Nat):Int),(ap (wd ws a)).kind,(((ap (wd ws a)).typ.toNat:Nat):Int),(ap (wd ws a)).mark,wd ws (a+1)⟩:=by
  have j:(ap (wd ws a)).typ=(((ap (wd ws a)).typ.toNat:Nat):Int):=by unfold ap;dsimp only;omega
  rw[<-j];rfl
 have b:∀r,7<=r->r<12->wrB ws (gc ws t 8) (aM (ah ws)) a (szAt ws a) (ap (wd ws a)).typ.toNat (ap (wd ws a)).mark (wd ws (a+1)) r=false:=by intro r l i;have:=h.wr r l i _ m;rw[k,lm] at this;exact this
 have f:((ap (wd ws a)).mark||decide (0<wd ws (a+1)))=false:=b 7 (by omega) (by omega);rw[kzs,kqh] at f;have d:(!decide ((ap (wd ws a)).typ.toNat<(gc ws t 8).length)||bg (((gc ws t 8)[(ap (wd ws a)).typ.toNat]?).getD []).length != szAt ws a)=false:=b 8 (by omega) (by omega);rw[kzs,kqr] at d;have e:=rZ h.ty;have c:(ap (wd ws a)).typ.toNat<t:=by have:=d.1;rw[ra] at this;simp at this;omega
 have g:=uQ (ws:=ws) e c;rw[g,kq5] at d;exact⟨f.1,by omega,c,g,d.2.symm,b⟩
theorem Lay.ref(h:Lay ws t)(ho:fi ws a)(hi:(flds ws a)[i]? = some 3)(hv:wd ws (a+2+i)≠0):fi ws (wd ws (a+2+i)):=by
 obtain⟨-,-,-,e,-,f⟩:=h.obj ho;have b:=f 11 (by omega) (by omega);have b:((List.range (((gc ws t 8)[(ap (wd ws a)).typ.toNat]?).getD []).length).any λi=>wrF ws (((gc ws t 8)[(ap (wd ws a)).typ.toNat]?).getD []) (aM (ah ws)) a 11 i)=false:=b;rw[e,kq5,kjk] at b;have c:=(kza.1 hi).1;have:=b i (kzi.2 c);unfold wrF at this;rw[if_neg (by decide),hi] at this;simp only[beq_self_eq_true,kzq,Bool.not_eq_true,kkk,kqh,kk2] at this;rw[<-nd h.hp];rcases this with d|d
 .omega
 exact d
theorem Lay.slot(h:Lay ws t)(hi:i<16)(hu:(slAt ws i).used=true):fi ws (slAt ws i).at_.toNat:=by
 have:=h.sl i hi;unfold jI at this;rw[hu] at this;rw[<-nd h.hp]
 simpa using this
theorem Lay.rch(h:Lay ws t)(ha:Rch ws a):fi ws a:=by
 induction ha with
 | slot i hi hu=>exact h.slot hi hu
 | ref _ i _ _ hf hv ih =>have b:=h.ref ih hf hv;have hlt:=b.2.2.1;have hb:=(ab _).1 h.size;rw[kxg (by omega)];exact b
theorem Lay.rc(h:Lay ws t):aC ws=0:=DQ h.hp h.sls λ_ a=>(obj_tb h.hp (h.rch a)).2
end
def dI (ws:List Nat):List Nat:=ai ws [⟨16,1⟩]
noncomputable def cpZ (ws:List Nat):List Nat:=vE (dI ws)
noncomputable def cpT (ws:List Nat):Nat:=(aO (cpL ws) 128).toNat
theorem fv(ws:List Nat):(dI ws).length=ws.length:=au _ _
theorem m9(h:i≠16):wd (dI ws) i=wd ws i:=aP _ _ _ λe a=>by rw[kqy] at a;subst a;dsimp only;omega
theorem kC(ho:∀v∈ws,v<18446744073709551616):∀v∈dI ws,v<18446744073709551616:=oU _ _ ho λe a=>by rw[kqy] at a;subst a;dsimp only;omega
theorem Et(ws:List Nat):NxL ws (dI ws):=qT λe a=>by rw[kqy] at a;subst a;exact .inl (by dsimp only;omega)
theorem x1_hp(h0:aj ws=0):aj (dI ws)=0/\ah (dI ws)=ah ws:=by obtain⟨e,d⟩:=((Et ws).ev h0).heap h0;refine⟨e,?_⟩;rw[d,kz5 (g:=id) (λb c=>?_),List.map_id];obtain⟨a,rfl,a1,-⟩:=(cr h0).1 b c;show nxB (dI ws) (bkAt ws a)=bkAt ws a;unfold nxB;refine t9 ?_;rw[af,kqj,m9 (by omega)];rfl
theorem Ig(h0:aj ws=0):seenL (dI ws)=seenL ws:=by unfold seenL;rw[fv];refine kz5 λa _=>?_;exact decide_eq_decide.2 ((Et ws).rch h0 a)
theorem Km(h0:aj ws=0):cpL (dI ws)=cpL ws/\cpM (dI ws)=cpM ws:=by
 have e:cpL (dI ws)=cpL ws:=by unfold cpL;rw[(x1_hp h0).2];refine kz5 λb _=>?_;unfold mkS eZ;rw[Ig h0]
 exact⟨e,by unfold cpM;rw[e]⟩
theorem Lay.first(h:Lay ws t):wd (dI ws) 16=1/\ax (dI ws)=0/\aC (dI ws)=0/\dm (dI ws)=dm ws:=by
 have hb:=(ab _).1 h.size;have b:wd (dI ws) 16=1:=kQ (j:=16) (l:=[]) (by omega) (λe g=>by cases g);obtain⟨i,d,f⟩:=(Et ws).same h.hp;have a:=h.z16;have c:cP (dI ws)=0:=by
  refine yv (by rw[fv];exact h.size) ?_ ?_
  .rw[bE,fv,b,m9 (by omega),m9 (by omega),m9 (by omega),m9 (by omega),m9 (by omega),m9 (by omega),m9 (by omega),a 17 (by omega) (by omega),a 18 (by omega) (by omega),a 19 (by omega) (by omega),a 20 (by omega) (by omega),a 21 (by omega) (by omega),a 22 (by omega) (by omega),a 23 (by omega) (by omega)];omega
  rw[b,m9 (by omega),m9 (by omega),a 17 (by omega) (by omega),a 18 (by omega) (by omega)];rfl
 exact⟨b,uC c (by omega) (by omega) i,by rw[d];exact h.rc,f⟩
section
variable {ws:List Nat} {t:Nat}
theorem Lay.run(h:Lay ws t)(ho:∀v∈ws,v<18446744073709551616):CpF (dI ws):=by obtain⟨a,b,c,-⟩:=h.first;exact cpF (kC ho) a b c
theorem Lay.desc(h:Lay ws t)(ho:∀v∈ws,v<18446744073709551616):CpD ws (cpZ ws) (cpM ws) (cpT ws)/\aO (cpL ws) 128=(cpT ws:Int):=by
 have r:=h.hp;obtain⟨p16,-,n,-⟩:=h.first;obtain⟨D,E⟩:=(h.run ho).desc n;obtain⟨z,J⟩:=Km r;rw[z,J] at D;rw[z] at E
 change CpD (dI ws) (cpZ ws) (cpM ws) (cpT ws) at D
 refine⟨?_,E⟩;have a:∀ {i:Nat},17<=i->wd (dI ws) i=wd ws i:=λh=>m9 (by omega);have y:=(Et ws).rch r;have j:∀i,i<16->slAt (dI ws) i=slAt ws i:=λi b=>by unfold slAt;rw[a (by omega)]
 have f:∀ {m:Nat},128<=m->szAt (dI ws) m=szAt ws m:=λd=>by unfold szAt;rw[a (by omega)]
 have o:∀ {m:Nat},128<=m->flds (dI ws) m=flds ws m:=λd=>by unfold flds;rw[a (by omega),a (by omega),a (by omega)]
 refine⟨D.len.trans (fv ws),λi b=>(D.low i b).trans (m9 (by omega)),D.line,λi b=>?_,λp hp=>?_,by rw[<-fv ws];exact D.to,λq=>?_,λi b G d=>?_⟩
 .rw[D.sl i b];unfold nwS;rw[j i b]
 .obtain ⟨m,A,e,F,C,u,w,s,B,x,l⟩:=D.obj p hp;have d:=(y m).1 F;have c:=(h.rch d).1;rw[f c] at u w l;rw[a (by omega)] at s;rw[o c] at x l;refine⟨m,A,e,d,C,u,w,s,B,λi b=>?_,λi H I=>?_⟩
  .have:=x i b;rwa [a (by omega)] at this
  have:=l i H I;rwa [a (by omega)] at this
 .have:=D.free (by rw[fv];exact q);rwa [fv] at this
 rw[D.rest i b (by rw[(x1_hp r).2];exact G) (λm k=>?_),a (by have:=D.to.1;omega)];have g:=(y m).1 k;rw[f (h.rch g).1];exact d m g
end
def mvB:List Bk->Int->List Bk
 | [],_=>[]
 | b::l,s=>if aR b then { b with at_:=s,mark:=false,next:=0 }::mvB l (s+b.size) else mvB l s
def frB (n T:Nat):List Bk:=if T=n then [] else [{ du (n-T) with at_:=(T:Int) }]
theorem z_free{M:List (Int × Int)}(D:CpD w z M T)(hs:ak (w.length:Int)=true):blocks z T=some (frB w.length T):=by
 have hb:=(ab _).1 hs;obtain⟨t1,t2,t3⟩:=D.to;unfold frB;by_cases c:T=w.length
 .rw[if_pos c,aD (by rw[D.len];omega)]
 rw[if_neg c];obtain⟨d,i⟩:=D.free (by omega);have b:jB (du (w.length-T))=true:=Ce (by omega) (by omega) (by omega);have a:=kp b;have e:szAt z T=w.length-T:=by have h:(ap (wd z T)).size=((szAt z T:Nat):Int):=rfl;rw[d,a] at h;have e3:(du (w.length-T)).size=((w.length-T:Nat):Int):=rfl;dsimp only at h;omega
 have g:stands z T=true:=by unfold stands;rw[d,kt b,kzq,kzd,a,D.len];show ((w.length-T:Nat):Int)<=_;omega
 rw[aL (by rw[D.len];omega) g,e,aD (by rw[D.len];omega)];have f:bkAt z T={ du (w.length-T) with at_:=(T:Int) }:=by unfold bkAt;rw[d,a,i];rfl
 rw[f];rfl
theorem GS(ho:fi w m)(e:wd z t=cS { ap (wd w m) with mark:=false }):ap (wd z t)={ ap (wd w m) with mark:=false }/\szAt z t=szAt w m/\aG (wd z t)=true:=by
 have b:=tv (fG ho.2.2.2.1) ho.2.2.2.2.1;have a:ap (wd z t)={ ap (wd w m) with mark:=false }:=by rw[e,kp b];rfl
 refine⟨a,?_,by rw[e];exact kt b⟩;have:=congrArg Bk.size a;have d:(ap (wd z t)).size=((szAt z t:Nat):Int):=rfl;have c:({ ap (wd w m) with mark:=false }:Bk).size=((szAt w m:Nat):Int):=rfl;rw[d,c] at this;omega
theorem GB{M:List (Int × Int)}(D:CpD w z M T)(h0:aj w=0)(hrc:aC w=0):∀(l:List Bk) (s:Nat),(∀p∈az l s,p∈M)->(∀b∈l,∃k∈ah w,b=mkS w k)->aO l s=(T:Int)->blocks z s=some (mvB l s++frB w.length T):=by
 intro l
 induction l with
 | nil =>
  intro s _ _ a;have a:(s:Int)=(T:Int):=a;obtain rfl:s=T:=by omega
  exact z_free D (aA h0).1
 | cons b l ih =>
  intro s e o a;obtain⟨k,q,u⟩:=o b (by simp);obtain⟨m,v,m1,m2,m3,m4⟩:=(cr h0).1 k q;simp only[az] at e;simp only[aO] at a;simp only[mvB];by_cases f:aR b=true
  .rw[if_pos f] at e a |-;have g:b.at_=(m:Int):=by rw[u,v];exact af w m
   have d:b.size=((szAt w m:Nat):Int):=by rw[u,v];exact bo w m
   have h:=e (b.at_,(s:Int)) (by simp);obtain⟨J,I,y,G,q2,q3,q4,F,E,-⟩:=D.obj _ h;rw[g] at y;injection y with y e2;obtain rfl:m=J:=by omega
   obtain rfl:s=I:=by omega
   have C:=ov hrc G;obtain⟨H,A,B⟩:=GS C F;have hT:=D.to.2.1;have j:stands z s=true:=by unfold stands;rw[B,kzq,kzd,D.len];have:(ap (wd z s)).size=((szAt z s:Nat):Int):=rfl;rw[this,A];omega
   rw[d] at e a |-;have t:=ih (s+szAt w m) (λp x=>e p (kz1 _ (by rw[show ((s:Int)+((szAt w m:Nat):Int))=((s+szAt w m:Nat):Int) by omega];exact x))) (λc r=>o c (kz1 _ r)) (by rw[<-a];congr 1);rw[aL (by rw[D.len];omega) j,A,t];have i:bkAt z s={ b with at_:=(s:Int),mark:=false,next:=0 }:=by unfold bkAt;rw[H,E,u,v];rfl
   rw[i,d,show ((s+szAt w m:Nat):Int)=(s:Int)+((szAt w m:Nat):Int) by omega];rfl
  have n:aR b=false:=by simpa using f
  rw[n] at e a;simp only[kzm,if_false] at e a;rw[if_neg f];exact ih s e (λc r=>o c (kz1 _ r)) a
theorem re:∀ {l:List Bk} {s:Int} {b:Bk},b∈mvB l s->∃a∈l,aR a=true/\∃t,b={ a with at_:=t,mark:=false,next:=0 }/\(a.at_,t)∈az l s:=by
 intro l
 induction l with
 | nil=>intro s b h;simp[mvB] at h
 | cons x l ih =>
  intro s b h;simp only[mvB] at h;simp only[az];by_cases d:aR x=true
  .rw[if_pos d] at h |-;rcases kqw.1 h with rfl|h
   .exact ⟨x,by simp,d,s,rfl,by simp⟩
   obtain⟨a,g,e,t,c,f⟩:=ih h;exact⟨a,kz1 _ g,e,t,c,kz1 _ f⟩
  rw[if_neg d] at h |-;obtain⟨a,g,e,t,c,f⟩:=ih h;exact⟨a,kz1 _ g,e,t,c,f⟩
theorem J3:∀ {l:List Bk} {s:Int} {p:Int × Int},p∈az l s->∃b∈mvB l s,b.at_=p.2/\b.kind=1:=by
 intro l
 induction l with
 | nil=>intro s p h;simp[az] at h
 | cons x l ih =>
  intro s p h;simp only[az] at h;simp only[mvB];by_cases a:aR x=true
  .rw[if_pos a] at h |-;rcases kqw.1 h with rfl|h
   .exact ⟨_,List.mem_cons_self ..,rfl,by unfold aR at a;simp at a;exact a.1⟩
   obtain⟨b,d,c⟩:=ih h;exact⟨b,kz1 _ d,c⟩
  rw[if_neg a] at h |-;exact ih h
theorem BT:∀ {l:List Bk} {s:Int},(∀b∈l,0<b.size)->(∀p∈az l s,s<=p.2)/\(az l s).Pairwise (λp q=>p.2<q.2):=by
 intro l
 induction l with
 | nil=>intro s _;exact⟨λp h=>by simp[az] at h,List.Pairwise.nil⟩
 | cons x l ih =>
  intro s h;have hx:=h x (by simp);simp only[az];by_cases d:aR x=true
  .rw[if_pos d];obtain⟨e,f⟩:=ih (s:=s+x.size) (λb c=>h b (by simp[c]));refine⟨λp a=>?_,List.Pairwise.cons (λp a=>?_) f⟩
   .rcases kqw.1 a with rfl|a
    .exact kks _
    have:=e p a;omega
   have:=e p a;dsimp only;omega
  rw[if_neg d];exact ih (λb c=>h b (by simp[c]))
theorem zt:∀ {l:List Bk} {s:Int},(∀b∈l,0<b.size)->l.Pairwise (λa b=>a.at_+a.size<=b.at_)->(∀b∈l,s<=b.at_)->∀p∈az l s,p.2<=p.1:=by
 intro l
 induction l with
 | nil=>intro s _ _ _ p h;simp[az] at h
 | cons x l ih =>
  intro s h e i p d;rw[kjr] at e;simp only[az] at d;have hx:=h x (by simp);have f:=i x (by simp);by_cases g:aR x=true
  .rw[if_pos g] at d;rcases kqw.1 d with rfl|d
   .exact f
   exact ih (λb c=>h b (by simp[c])) e.2 (λb c=>by have:=e.1 b c;omega) p d
  rw[if_neg g] at d;exact ih (λb c=>h b (by simp[c])) e.2 (λb c=>i b (by simp[c])) p d
theorem lC:∀ {M:List (Int × Int)} {a t:Int},M.Pairwise (λp q=>p.1<q.1)->(fY M a=some t↔(a,t)∈M):=by
 intro M
 induction M with
 | nil=>intro a t _;simp[fY]
 | cons p M ih =>
  intro a t h;rw[kjr] at h;simp only[fY];by_cases e:p.1=a
  .rw[if_pos e];constructor
   .intro c;injection c with c;rw[<-e,<-c];simp
   intro c;rcases kqw.1 c with b|b
   .rw[<-b]
   have:=h.1 _ b;dsimp only at this;omega
  rw[if_neg e,ih h.2];constructor
  .exact λh=>kz1 _ h
  intro c;rcases kqw.1 c with b|b
  .rw[<-b] at e;exact absurd rfl e
  exact b
theorem Hv :∀i l,blocks ws i=some l->(∀b∈l,(i:Int)<=b.at_/\0<b.size)/\l.Pairwise (λa b=>a.at_+a.size<=b.at_):=by
 refine dP _ (λi _=>⟨λb h=>by simp at h,List.Pairwise.nil⟩) (λi l hi d hb c=>?_);have hsz:=aJ d;refine⟨λb h=>?_,List.Pairwise.cons (λb h=>?_) c.2⟩
 .rcases kqw.1 h with rfl|h
  .rw[af,bo];omega
  have:=c.1 b h;omega
 have:=(c.1 b h).1;rw[af,bo];omega
section
variable {w z:List Nat} {t:Nat}
theorem ue{b:Bk}(h:b∈cpL w):∃a∈ah w,b=mkS w a:=by unfold cpL at h;obtain⟨a,c,rfl⟩:=kzx.1 h;exact⟨a,c,rfl⟩
theorem JT(h0:aj w=0):(∀b∈cpL w,128<=b.at_/\0<b.size)/\(cpL w).Pairwise (λa b=>a.at_+a.size<=b.at_):=by
 obtain⟨g,e⟩:=Hv _ _ (ga h0).2.2.2;refine⟨λb d=>?_,?_⟩
 .obtain ⟨f,c,rfl⟩:=ue d;exact g f c
 unfold cpL;rw[kjy];exact e
structure CpMv (w:List Nat):Prop where
 fst:(cpM w).map Prod.fst=dm w
 inc:(cpM w).Pairwise (λp q=>p.1<q.1)
 snd:(cpM w).Pairwise (λp q=>p.2<q.2)
 dn:∀p∈cpM w,128<=p.2/\p.2<=p.1
theorem cpMv(h0:aj w=0)(hf:(cpM w).map Prod.fst=dm w)(hrc:aC w=0):CpMv w:=by obtain⟨c,f⟩:=JT h0;have d:=BT (l:=cpL w) (s:=128) (λb a=>(c b a).2);have g:=zt (l:=cpL w) (s:=128) (λb a=>(c b a).2) f (λb a=>(c b a).1);refine⟨hf,?_,d.2,λp e=>⟨d.1 p e,g p e⟩⟩;have:=rW hrc;rw[<-hf,kjy] at this;exact this
theorem Lay.mvs(h:Lay w t)(ho:∀v∈w,v<18446744073709551616):CpMv w:=by have a:=GL h.first.2.2.1 (h.run ho);rw[(Km h.hp).2,h.first.2.2.2] at a;exact cpMv h.hp a h.rc
theorem CpMv.to(V:CpMv w)(hrc:aC w=0)(h:Rch w m):∃a:Nat,fY (cpM w) (m:Int)=some (a:Int)/\128<=a/\a<=m:=by obtain⟨t,b⟩:=Fi (M:=cpM w) (a:=(m:Int)) (by rw[V.fst,fq hrc];exact⟨m,rfl,ro ((aH hrc).2.2 m h),h⟩);have c:=(lC V.inc).1 b;have:=V.dn _ c;dsimp only at this;obtain⟨a,rfl⟩:=kq1 (show 0<=t by omega);exact⟨a,b,by omega,by omega⟩
theorem CpMv.rch(V:CpMv w)(hrc:aC w=0){m a:Int}(h:fY (cpM w) m=some a):∃b:Nat,m=(b:Int)/\Rch w b:=by have c:=(lC V.inc).1 h;have:m∈(cpM w).map Prod.fst:=kzx.2 ⟨_,c,rfl⟩;rw[V.fst,fq hrc] at this;obtain⟨b,e,-,h⟩:=this;exact⟨b,e,h⟩
end
theorem sp8_eq(hl:z.length=w.length)(h:∀i,i<8->wd z (a+i)=wd w (a+i))(ha:a+8<=w.length):sp8 z a=sp8 w a:=by
 apply List.ext_getElem
 .rw[mr (by omega),mr ha]
 intro i b h2;rw[mr (by omega)] at b;have e:∀(x:List Nat) (c:i<(sp8 x a).length),(sp8 x a)[i]=wd (sp8 x a) i:=λx c=>by rw[cF c]
 rw[e,e,lh b,lh b,h i b]
theorem tyN_eq(hl:z.length=w.length)(h:∀i,i<16->wd z i=wd w i)(hs:ak (w.length:Int)=true):tyN z=tyN w:=by
 have hb:=(ab _).1 hs;have b:∀a,a+8<=16->kU z a=kU w a:=λa ha=>by
  unfold kU;rw[sp8_eq hl (λi hi=>h _ (by omega)) (by omega),h _ (by omega),hl]
 unfold tyN;rw[b 0 (by omega),b 8 (by omega),h 3 (by omega),h 11 (by omega)]
theorem wr_of(h0:aj z=0)(ht8:t<=8)(h:∀a,fi z a->(ap (wd z a)).mark=false/\wd z (a+1)=0/\(ap (wd z a)).typ.toNat<t/\szAt z a=bg (flds z a).length/\((flds z a).length+2<szAt z a->wd z (a+2+(flds z a).length)=0)/\(∀i,(flds z a)[i]? = some 2->uZ (wd z (a+2+i))=true)/\∀i,(flds z a)[i]? = some 3->wd z (a+2+i)=0\/fi z (wd z (a+2+i))):
 ∀r,7<=r->r<12->∀b∈aM (ah z),wrK z (gc z t 8) (aM (ah z)) r b=false:=by
 intro r h7 h12 b s;obtain⟨v,m⟩:=kzu.1 s;rw[kqx] at m;obtain⟨k,D,rfl⟩:=kq0 v;obtain⟨a,E,o⟩:=mL h0 D m;have y:bkAt z a=⟨(a:Int),((szAt z a:Nat):Int),(ap (wd z a)).kind,(((ap (wd z a)).typ.toNat:Nat):Int),(ap (wd z a)).mark,wd z (a+1)⟩:=by
  have C:(ap (wd z a)).typ=(((ap (wd z a)).typ.toNat:Nat):Int):=by unfold ap;dsimp only;omega
  rw[<-C];rfl
 rw[E,y,lm];obtain⟨q,w,j,B,A,u,x⟩:=h a o;have p:(gc z t 8)[(ap (wd z a)).typ.toNat]? = some (flds z a):=uQ ht8 j;unfold wrB;rw[p,kq5];by_cases f:r=7
 .rw[if_pos f,q,w];rfl
 rw[if_neg f];by_cases g:r=8
 .rw[if_pos g,B,ra,kxg ht8,decide_eq_true j];simp
 rw[if_neg g];by_cases n:r=9
 .rw[if_pos n];by_cases l:(flds z a).length+2<szAt z a
  .rw[A l];simp
  rw[decide_eq_false l];rfl
 rw[if_neg n,kjk];intro i _;unfold wrF;by_cases c:r=10
 .rw[if_pos c];by_cases d:(flds z a)[i]? = some 2
  .rw[u i d];simp
  rw[show ((flds z a)[i]? == some 2)=false by rw[kqi];exact d];simp
 rw[if_neg c];by_cases d:(flds z a)[i]? = some 3
 .rcases x i d with e|e
  .rw[e];simp
  rw[(nd h0).2 e];simp
 rw[show ((flds z a)[i]? == some 3)=false by rw[kqi];exact d];simp
theorem JZ{n:Nat}(h:∀b∈l,b.kind=1):ky (l++frB n T)=true:=by
 rw[lL];intro j c;unfold nJ;by_cases d:j=0
 .subst d;rfl
 have hlen:(frB n T).length<=1:=by unfold frB;split<;>simp
 rw[kqs] at c;have a:j-1<l.length:=by omega
 have e:gk (l++frB n T) (j-1)=l[j-1]:=by unfold gk;rw[kj8 a,kql a,kq5]
 rw[e,h _ (kqn a)];simp
section
variable {w z:List Nat} {t:Nat}
structure CpR (w z:List Nat) (t:Nat):Prop where
 L:Lay w t
 D:CpD w z (cpM w) (cpT w)
 E:aO (cpL w) 128=(cpT w:Int)
 V:CpMv w
theorem CpR.hp(R:CpR w z t):aj z=0/\ah z=mvB (cpL w) 128++frB w.length (cpT w):=by
 have h:=R.L.hp;have f:=GB R.D h R.L.rc (cpL w) 128 (λp hp=>hp) (λb f=>ue f) R.E;refine fM (by rw[R.D.len];exact R.L.size) f ?_;rw[kzv];intro b a;rcases kzo.1 a with a|a
 .obtain ⟨b1,q,g,tt,rfl,-⟩:=re a;obtain⟨c,e,rfl⟩:=ue q;obtain⟨h4,l,o,m,j⟩:=aA h;rw[kzv] at m;have d:=m c (by rw[<-j];exact e);have n:c.kind=1:=by unfold aR mkS at g;simp at g;exact g.1
  have hty:=iN o (by omega) c (by rw[<-j];exact e) n;have hk0:0<=c.typ/\c.typ<8:=by obtain⟨k,i,rfl⟩:=kq0 e;exact iX (ga h).2.2.2 (by omega) i n
  unfold dW dj at d |-;show (c.kind != 1||(cD (wd z (tyA c)) (wd z (tyA c+1))&&c.size==((bg (wd z (tyA c)%256):Nat):Int)))=true;rw[R.D.low _ (by unfold tyA;omega),R.D.low _ (by unfold tyA;omega)];exact d
 unfold frB at a;split at a
 .cases a
 rw[kqy] at a;subst a;rfl
theorem CpR.obj(R:CpR w z t):fi z a↔∃m:Nat,Rch w m/\fY (cpM w) (m:Int)=some (a:Int):=by
 obtain⟨B,u⟩:=R.hp;constructor
 .intro o;obtain⟨k,n,e,-⟩:=o.2.2.2.2.2.2;have c:bkAt z a∈ah z:=by rw[<-e];exact kqn n
  have j:=o.2.2.2.2.1;rw[u] at c;rcases kzo.1 c with c|c
  .obtain ⟨x,q,g,y,h,r⟩:=re c;have d:=congrArg Bk.at_ h;rw[af] at d;have d:(a:Int)=y:=d;rw[<-d] at r;have p:=(lC R.V.inc).2 (show (x.at_,(a:Int))∈cpM w from r);obtain⟨m,i,v⟩:=R.V.rch R.L.rc p;exact⟨m,v,by rw[<-i];exact p⟩
  exfalso;unfold frB at c;split at c
  .cases c
  rw[kqy] at c;have d:=congrArg Bk.kind c;have:(bkAt z a).kind=(ap (wd z a)).kind:=rfl;rw[this,j] at d;have d:(1:Int)=2:=d;omega
 rintro ⟨m,v,c⟩;obtain⟨b,q,g,h⟩:=J3 (l:=cpL w) (s:=128) ((lC R.V.inc).1 c);have f:b∈ah z:=by rw[u];exact kkq _ q
 obtain⟨k,n,rfl⟩:=kq0 f;obtain⟨A,C,i⟩:=mL B n h;rw[C,af] at g;obtain rfl:A=a:=by dsimp only at g;omega
 exact i
theorem CpR.at_(R:CpR w z t)(hm:fY (cpM w) (m:Int)=some (a:Int)):fi w m/\ap (wd z a)={ ap (wd w m) with mark:=false }/\szAt z a=szAt w m/\wd z (a+1)=0/\flds z a=flds w m/\128<=a/\a<=m/\(∀i,(flds w m)[i]? = some 3->FxV (cpM w) (wd w (m+2+i)) (wd z (a+2+i)))/\∀i,2+i<szAt w m->(flds w m)[i]? ≠ some 3->wd z (a+2+i)=wd w (m+2+i):=by
 have b:=(lC R.V.inc).1 hm;obtain⟨k,n,e,h,q2,q3,q4,l,j,p,f⟩:=R.D.obj _ b;injection e with e1 e2;obtain rfl:m=k:=by omega
 obtain rfl:a=n:=by omega
 have c:=R.L.rch h;obtain⟨d,g,h3⟩:=GS c l;have o:=R.V.dn _ b;dsimp only at o;have ht:=mh c;refine⟨c,d,g,j,?_,by omega,by omega,p,f⟩;unfold flds;rw[d];dsimp only;rw[R.D.low _ (by omega),R.D.low _ (by omega)]
theorem CpR.slot(R:CpR w z t)(hi:i<16):(slAt z i).gen=(slAt w i).gen/\(slAt z i).used=(slAt w i).used/\((slAt w i).used=true->∃a:Nat,fY (cpM w) (slAt w i).at_=some (a:Int)/\(slAt z i).at_=(a:Int))/\((slAt w i).used=false->slAt z i=slAt w i):=by
 have h:=R.D.sl i hi;unfold nwS at h;cases b:(slAt w i).used with
 | true =>rw[b,if_pos rfl] at h;have d:=Rch.slot (ws:=w) i hi b;obtain⟨a,c,h2,h3⟩:=R.V.to R.L.rc d;have e:(((slAt w i).at_.toNat:Nat):Int)=(slAt w i).at_:=kj0 (gj (wd w (112+i))).2.2.1;rw[e] at c;rw[c] at h;rw[h];exact⟨rfl,rfl,λ_=>⟨a,c,rfl⟩,λh=>(by cases h)⟩
 | false =>rw[b] at h;simp only[kzm,if_false] at h;rw[h];exact⟨rfl,b,λh=>(by cases h),λ_=>rfl⟩
theorem CpR.lay(R:CpR w z t):Lay z t:=by
 obtain⟨F,O⟩:=R.hp;have Q:ak (z.length:Int)=true:=by rw[R.D.len];exact R.L.size
 have K:=(ab _).1 R.L.size;have u:=rZ R.L.ty;have d:=R.D.low;refine⟨Q,?_,λi v r=>?_,?_,?_,F,?_,wr_of F u λa q=>?_,λi c=>?_⟩
 .rw[tyN_eq R.D.len (λi c=>d i (.inl c)) R.L.size];exact R.L.ty
 .rcases kq7 i 19 with l|l
  .obtain ⟨l1,l2,l3⟩:=R.D.line;have:i=16\/i=17\/i=18:=by omega
   rcases this with rfl|rfl|rfl<;>assumption
  rw[d i (by omega)];exact R.L.z16 i v r
 .have:=(gQ w t).1 R.L.tys;rw[gQ];intro i c;have l:=this i c;unfold Aa at l |-;rw[d _ (by omega),d _ (by omega)];exact l
 .rw[cG];intro i c;have G:=(cG w).1 R.L.sls i c;obtain⟨n,k,j,p⟩:=R.slot c;cases f:(slAt w i).used with
  | false=>rw[p f];exact G
  | true =>obtain⟨a,g,A⟩:=j f;obtain⟨u1,-,-⟩:=uY G f;obtain⟨m,E,x⟩:=R.V.rch R.L.rc g;obtain⟨q,-,-,-,-,k1,k2,-⟩:=R.at_ (m:=m) (a:=a) (by rw[E] at g;exact g);unfold mX;rw[k,f,if_pos rfl,n,A];have:=q.2.2.1;simp only[kqu,kzd];omega
 .rw[O];refine JZ λb K=>?_;obtain⟨b1,q1,s,tt,rfl,-⟩:=re K;unfold aR at s;simp at s;exact s.1
 .obtain ⟨m,x,U⟩:=R.obj.1 q;obtain⟨C,n,k,j,p,g5,g6,P,H⟩:=R.at_ U;obtain⟨f1,f2,S,N,J,M⟩:=R.L.obj C;rw[n,k,p];refine⟨rfl,j,S,J,λhp=>?_,λi c=>?_,λi c=>?_⟩
  .rw[H _ (by omega) (by rw[kzc (kqa _)];simp)];have I:(decide ((((gc w t 8)[(ap (wd w m)).typ.toNat]?).getD []).length+2<szAt w m)&&wd w (m+2+(((gc w t 8)[(ap (wd w m)).typ.toNat]?).getD []).length) != 0)=false:=M 9 (by omega) (by omega);rw[N,kq5,decide_eq_true hp,kzq,kqr] at I;exact I
  .have B:=(kza.1 c).1;rw[H i (by rw[J];unfold bg;omega) (by rw[c];simp)];have h:((List.range (((gc w t 8)[(ap (wd w m)).typ.toNat]?).getD []).length).any λi=>wrF w (((gc w t 8)[(ap (wd w m)).typ.toNat]?).getD []) (aM (ah w)) m 10 i)=false:=M 10 (by omega) (by omega);rw[N,kq5,kjk] at h;have:=h i (kzi.2 B);unfold wrF at this;rw[if_pos rfl,c] at this
   simpa using this
  rcases P i c with⟨-,o⟩|⟨h4,o⟩
  .exact .inl o
  obtain⟨T,e,y⟩:=R.V.rch R.L.rc o;exact .inr (R.obj.2 ⟨T,y,by rw[<-e];exact o⟩)
 obtain⟨n,k,j,p⟩:=R.slot c;unfold jI;cases f:(slAt w i).used with
 | false=>rw[k,f];rfl
 | true =>obtain⟨a,g,A⟩:=j f;obtain⟨m,E,x⟩:=R.V.rch R.L.rc g;rw[A,kqj,(nd F).2 (R.obj.2 ⟨m,x,by rw[<-E];exact g⟩)];simp
end
theorem Lay.cp(h:Lay w t)(ho:∀v∈w,v<18446744073709551616):CpR w (cpZ w) t:=⟨h,(h.desc ho).1,(h.desc ho).2,h.mvs ho⟩
theorem Lay.lt(h:Lay w t)(ho:∀v∈w,v<18446744073709551616):∀v∈cpZ w,v<18446744073709551616:=by have F:=h.run ho;unfold cpZ vE;exact oU _ _ F.o4 (nl F.en).1.val
section
variable {w z:List Nat} {t:Nat}
end
end Go.Proofs.YtpcajamacpbjcaaGreat
