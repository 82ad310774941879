/- Texts laid together: LyQ CpE CpG CpH CpI. -/
import Derived.Test.YtpcajamacpbjcaaGreatZKR19
import Derived.Test.YtpcajamacpbjcaaGreatZKCp1
set_option maxHeartbeats 16000000
set_option linter.all false
namespace Go.Proofs.YtpcajamacpbjcaaGreat
open Go.RowKit
variable {l:List Bk}{w ws z:List Nat}{T a i m t:Nat}
structure Lay (ws:List Nat) (t:Nat):Prop where
 size:al (ws.length:Int)=true
 ty:tyN ws=some t
 z16:∀i,16<=i->i<32->wd ws i=0
 tys:ga ws t=true
 sls:slsOk ws=true
 hp:af ws=0
 adj:js (aa ws)=true
 wr:∀r,7<=r->r<12->∀b∈objs (aa ws),wrK ws (eB ws t 8) (objs (aa ws)) r b=false
 sl:∀i,i<16->iH (objs (aa ws)) (slAt ws i)=true
theorem pQ(h:tyN ws=some t):al (ws.length:Int)=true:=by
 cases a:al (ws.length:Int) with
 | true=>rfl
 | false=>rw[(sx a).1] at h;cases h
theorem kw(ws:List Nat)(T:List (List Nat))(O:List Bk)(r a z ty:Nat)(k:Int)(mk:Bool)(nx:Nat):wrK ws T O r ⟨(a:Int),(z:Int),k,(ty:Int),mk,nx⟩=wrB ws T O a z ty mk nx r:=by unfold wrK;simp only[kqk]
theorem sr(ht:t<=8)(hi:i<t):(eB ws t 8)[i]? = some (aX (wd ws (96+2*i)) (wd ws (96+2*i+1))):=by unfold eB;rw[kxb ht,kzh,kqj (by rw[kx4];exact hi)];simp
theorem lay_hp(ht:tyN ws=some t)(hl:blocks ws 128=some l)(hty:ga ws t=true)(h8:∀b∈objs l,wrK ws (eB ws t 8) (objs l) 8 b=false):af ws=0/\aa ws=l:=by
 refine eV (pQ ht) hl ?_;rw[kzq];intro b o;by_cases j:b.kind=1
 .have f:b∈objs l:=kzv.2 ⟨o,by rw[kqx];exact j⟩;have h:=h8 b f;obtain⟨a,z,g,nx,mk,e,a1,a2,a3,a4,a5⟩:=fW hl f;rw[iK j];rw[e] at h;rw[kw] at h;have h:(!decide (g<(eB ws t 8).length)||aP (((eB ws t 8)[g]?).getD []).length != z)=false:=h;rw[kzw] at h;have i:=m9 ht;have d:g<t:=by have:=h.1;rw[jZ] at this;simp at this;omega
  rw[sr i d,kq2] at h;have c:=(fI ws t).1 hty g (by omega);unfold Au at c;rw[if_pos d] at c;have k:=h.2;rw[kqq] at k;have m:tyA b=96+2*g:=by rw[e];unfold tyA;simp
  have n:b.size=(z:Int):=by rw[e]
  rw[m,c,n,<-k];simp
 rw[dC j]
theorem rb(h:lay ws=true):∃t,Lay ws t:=by
 cases a:tyN ws with
 | none=>rw[oN (.inl a)] at h;cases h
 | some t =>
  cases d:blocks ws 128 with
  | none=>rw[oN (.inr d)] at h;cases h
  | some l =>
   obtain⟨g,j,f,q,r,e,m⟩:=(nB a d).1 h;obtain⟨k,c⟩:=lay_hp a d f (λb o=>e 8 (by omega) (by omega) b o);refine⟨t,pQ a,a,λi hi1 hi2=>?_,f,q,k,by rw[c];exact r,by rw[c];exact e,λi p=>by
    rw[c];exact m _ (kzi.2 ⟨i,kq8.2 p,rfl⟩)⟩
   rw[iN] at g j;rcases kq9 i 24 with n|n
   .have:=g (i-16) (by omega);rwa [show 16+(i-16)=i by omega] at this
   have:=j (i-24) (by omega);rwa [show 24+(i-24)=i by omega] at this
section
variable {ws:List Nat} {t:Nat}
theorem Lay.lay(h:Lay ws t):lay ws=true:=by have c:=(eY h.hp).2.2.2;rw[nB h.ty c];refine⟨(iN _ _).2 λi a=>h.z16 _ (by omega) (by omega),(iN _ _).2 λi a=>h.z16 _ (by omega) (by omega),h.tys,h.sls,h.adj,h.wr,λs b=>?_⟩;obtain⟨i,a,rfl⟩:=kzi.1 b;exact h.sl i (kq8.1 a)
theorem ms(h0:af ws=0){v:Nat}:lU (objs (aa ws)) v=true↔cb ws v:=by
 unfold lU;rw[kx1];constructor
 .rintro ⟨b,h,e⟩;rw[kqx] at e;obtain⟨g,d⟩:=kzv.1 h;rw[kqx] at d;obtain⟨k,c,rfl⟩:=kqu g;obtain⟨a,i,j⟩:=ju h0 c d;rw[i,ab] at e;obtain rfl:a=v:=by omega
  exact j
 intro f;obtain⟨k,c,e,-⟩:=f.2.2.2.2.2.2;exact⟨bkAt ws v,kzv.2 ⟨by rw[<-e];exact kqm c,by rw[kqx];exact f.2.2.2.2.1⟩,by rw[kqx,ab]⟩
theorem tu(ho:cb ws a):bkAt ws a∈objs (aa ws):=by obtain⟨k,b,e,-⟩:=ho.2.2.2.2.2.2;exact kzv.2 ⟨by rw[<-e];exact kqm b,by rw[kqx];exact ho.2.2.2.2.1⟩
theorem Lay.obj(h:Lay ws t)(ho:cb ws a):(ah (wd ws a)).mark=false/\wd ws (a+1)=0/\(ah (wd ws a)).typ.toNat<t/\(eB ws t 8)[(ah (wd ws a)).typ.toNat]? = some (flds ws a)/\szAt ws a=aP (flds ws a).length/\(∀r,7<=r->r<12->wrB ws (eB ws t 8) (objs (aa ws)) a (szAt ws a) (ah (wd ws a)).typ.toNat (ah (wd ws a)).mark (wd ws (a+1)) r=false):=by
 have l:=tu ho;have m:bkAt ws a=⟨(a:Int),((szAt ws a:Nat):Int),(ah (wd ws a)).kind,(((ah (wd ws a)).typ.toNat:Nat):Int),(ah (wd ws a)).mark,wd ws (a+1)⟩:=by
  have j:(ah (wd ws a)).typ=(((ah (wd ws a)).typ.toNat:Nat):Int):=by unfold ah;dsimp only;omega
  rw[<-j];rfl
 have b:∀r,7<=r->r<12->wrB ws (eB ws t 8) (objs (aa ws)) a (szAt ws a) (ah (wd ws a)).typ.toNat (ah (wd ws a)).mark (wd ws (a+1)) r=false:=by intro r i k;have:=h.wr r i k _ l;rw[m,kw] at this;exact this
 have g:((ah (wd ws a)).mark||decide (0<wd ws (a+1)))=false:=b 7 (by omega) (by omega);rw[kzw,kqh] at g;have d:(!decide ((ah (wd ws a)).typ.toNat<(eB ws t 8).length)||aP (((eB ws t 8)[(ah (wd ws a)).typ.toNat]?).getD []).length != szAt ws a)=false:=b 8 (by omega) (by omega);rw[kzw,kqq] at d;have e:=m9 h.ty;have c:(ah (wd ws a)).typ.toNat<t:=by have:=d.1;rw[jZ] at this;simp at this;omega
 have f:=sr (ws:=ws) e c;rw[f,kq2] at d;exact⟨g.1,by omega,c,f,d.2.symm,b⟩
theorem Lay.ref(h:Lay ws t)(ho:cb ws a)(hi:(flds ws a)[i]? = some 3)(hv:wd ws (a+2+i)≠0):cb ws (wd ws (a+2+i)):=by
 obtain⟨-,-,-,e,-,f⟩:=h.obj ho;have b:=f 11 (by omega) (by omega);have b:((List.range (((eB ws t 8)[(ah (wd ws a)).typ.toNat]?).getD []).length).any λi=>wrF ws (((eB ws t 8)[(ah (wd ws a)).typ.toNat]?).getD []) (objs (aa ws)) a 11 i)=false:=b;rw[e,kq2,kx5] at b;have c:=(kq7.1 hi).1;have:=b i (kq8.2 c);unfold wrF at this;rw[if_neg (by decide),hi] at this;simp only[beq_self_eq_true,kzx,Bool.not_eq_true,kva,kqh,kky] at this;rw[<-ms h.hp];rcases this with d|d
 .omega
 exact d
theorem Lay.slot(h:Lay ws t)(hi:i<16)(hu:(slAt ws i).used=true):cb ws (slAt ws i).at_.toNat:=by
 have:=h.sl i hi;unfold iH at this;rw[hu] at this;rw[<-ms h.hp]
 simpa using this
theorem Lay.rch(h:Lay ws t)(ha:Rch ws a):cb ws a:=by
 induction ha with
 | slot i hi hu=>exact h.slot hi hu
 | ref _ i _ _ hf hv ih =>have b:=h.ref ih hf hv;have hlt:=b.2.2.1;have hb:=(ac _).1 h.size;rw[kxb (by omega)];exact b
theorem Lay.rc(h:Lay ws t):ax ws=0:=BV h.hp h.sls λ_ a=>(yk h.hp (h.rch a)).2
end
def ie (ws:List Nat):List Nat:=ak ws [⟨16,1⟩]
noncomputable def cpZ (ws:List Nat):List Nat:=vE (ie ws)
noncomputable def cpT (ws:List Nat):Nat:=(aI (cpL ws) 128).toNat
theorem iR(ws:List Nat):(ie ws).length=ws.length:=aD _ _
theorem lM(h:i≠16):wd (ie ws) i=wd ws i:=aT _ _ _ λe a=>by rw[kq1] at a;subst a;dsimp only;omega
theorem yF(ho:∀v∈ws,v<18446744073709551616):∀v∈ie ws,v<18446744073709551616:=pj _ _ ho λe a=>by rw[kq1] at a;subst a;dsimp only;omega
theorem D5(ws:List Nat):NxL ws (ie ws):=pJ λe a=>by rw[kq1] at a;subst a;exact .inl (by dsimp only;omega)
theorem x1_hp(h0:af ws=0):af (ie ws)=0/\aa (ie ws)=aa ws:=by obtain⟨c,e⟩:=((D5 ws).ev h0).heap h0;refine⟨c,?_⟩;rw[e,kzm (g:=id) (λb d=>?_),List.map_id];obtain⟨a,rfl,a1,-⟩:=(bG h0).1 b d;show nxB (ie ws) (bkAt ws a)=bkAt ws a;unfold nxB;refine sE ?_;rw[ab,kqk,lM (by omega)];rfl
theorem FY(h0:af ws=0):seenL (ie ws)=seenL ws:=by unfold seenL;rw[iR];refine kzm λa _=>?_;exact decide_eq_decide.2 ((D5 ws).rch h0 a)
theorem x1_cp(h0:af ws=0):cpL (ie ws)=cpL ws/\cpM (ie ws)=cpM ws:=by
 have e:cpL (ie ws)=cpL ws:=by unfold cpL;rw[(x1_hp h0).2];refine kzm λb _=>?_;unfold mkS dU;rw[FY h0]
 exact⟨e,by unfold cpM;rw[e]⟩
theorem Lay.first(h:Lay ws t):wd (ie ws) 16=1/\av (ie ws)=0/\ax (ie ws)=0/\aR (ie ws)=aR ws:=by
 have hb:=(ac _).1 h.size;have b:wd (ie ws) 16=1:=jE (j:=16) (l:=[]) (by omega) (λe d=>by cases d);obtain⟨f,g,i⟩:=(D5 ws).same h.hp;have a:=h.z16;have c:cy (ie ws)=0:=by
  refine Aj (by rw[iR];exact h.size) ?_ ?_
  .rw[bj,iR,b,lM (by omega),lM (by omega),lM (by omega),lM (by omega),lM (by omega),lM (by omega),lM (by omega),a 17 (by omega) (by omega),a 18 (by omega) (by omega),a 19 (by omega) (by omega),a 20 (by omega) (by omega),a 21 (by omega) (by omega),a 22 (by omega) (by omega),a 23 (by omega) (by omega)];omega
  rw[b,lM (by omega),lM (by omega),a 17 (by omega) (by omega),a 18 (by omega) (by omega)];rfl
 exact⟨b,wg c (by omega) (by omega) f,by rw[g];exact h.rc,i⟩
section
variable {ws:List Nat} {t:Nat}
theorem Lay.run(h:Lay ws t)(ho:∀v∈ws,v<18446744073709551616):CpF (ie ws):=by obtain⟨a,b,c,-⟩:=h.first;exact cpF (yF ho) a b c
theorem Lay.desc(h:Lay ws t)(ho:∀v∈ws,v<18446744073709551616):CpD ws (cpZ ws) (cpM ws) (cpT ws)/\aI (cpL ws) 128=(cpT ws:Int):=by
 have o:=h.hp;obtain⟨p16,-,k,-⟩:=h.first;obtain⟨D,E⟩:=(h.run ho).desc k;obtain⟨s,G⟩:=x1_cp o;rw[s,G] at D;rw[s] at E
 change CpD (ie ws) (cpZ ws) (cpM ws) (cpT ws) at D
 refine⟨?_,E⟩;have a:∀ {i:Nat},17<=i->wd (ie ws) i=wd ws i:=λh=>lM (by omega);have u:=(D5 ws).rch o;have r:∀i,i<16->slAt (ie ws) i=slAt ws i:=λi b=>by unfold slAt;rw[a (by omega)]
 have f:∀ {m:Nat},128<=m->szAt (ie ws) m=szAt ws m:=λd=>by unfold szAt;rw[a (by omega)]
 have l:∀ {m:Nat},128<=m->flds (ie ws) m=flds ws m:=λd=>by unfold flds;rw[a (by omega),a (by omega),a (by omega)]
 refine⟨D.len.trans (iR ws),λi b=>(D.low i b).trans (lM (by omega)),D.line,λi b=>?_,λp hp=>?_,by rw[<-iR ws];exact D.to,λj=>?_,λi b H d=>?_⟩
 .rw[D.sl i b];unfold nwS;rw[r i b]
 .obtain ⟨m,I,e,F,A,x,z,w,J,y,n⟩:=D.obj p hp;have d:=(u m).1 F;have c:=(h.rch d).1;rw[f c] at x z n;rw[a (by omega)] at w;rw[l c] at y n;refine⟨m,I,e,d,A,x,z,w,J,λi b=>?_,λi B C=>?_⟩
  .have:=y i b;rwa [a (by omega)] at this
  have:=n i B C;rwa [a (by omega)] at this
 .have:=D.free (by rw[iR];exact j);rwa [iR] at this
 rw[D.rest i b (by rw[(x1_hp o).2];exact H) (λm q=>?_),a (by have:=D.to.1;omega)];have g:=(u m).1 q;rw[f (h.rch g).1];exact d m g
end
def mvB:List Bk->Int->List Bk
 | [],_=>[]
 | b::l,s=>if aK b then { b with at_:=s,mark:=false,next:=0 }::mvB l (s+b.size) else mvB l s
def frB (n T:Nat):List Bk:=if T=n then [] else [{ cJ (n-T) with at_:=(T:Int) }]
theorem z_free{M:List (Int × Int)}(D:CpD w z M T)(hs:al (w.length:Int)=true):blocks z T=some (frB w.length T):=by
 have hb:=(ac _).1 hs;obtain⟨t1,t2,t3⟩:=D.to;unfold frB;by_cases c:T=w.length
 .rw[if_pos c,ay (by rw[D.len];omega)]
 rw[if_neg c];obtain⟨e,i⟩:=D.free (by omega);have b:iF (cJ (w.length-T))=true:=AU (by omega) (by omega) (by omega);have a:=jf b;have f:szAt z T=w.length-T:=by have h:(ah (wd z T)).size=((szAt z T:Nat):Int):=rfl;rw[e,a] at h;have e3:(cJ (w.length-T)).size=((w.length-T:Nat):Int):=rfl;dsimp only at h;omega
 have g:stands z T=true:=by unfold stands;rw[e,jn b,kzx,kzz,a,D.len];show ((w.length-T:Nat):Int)<=_;omega
 rw[aG (by rw[D.len];omega) g,f,ay (by rw[D.len];omega)];have d:bkAt z T={ cJ (w.length-T) with at_:=(T:Int) }:=by unfold bkAt;rw[e,a,i];rfl
 rw[d];rfl
theorem EM(ho:cb w m)(e:wd z t=cg { ah (wd w m) with mark:=false }):ah (wd z t)={ ah (wd w m) with mark:=false }/\szAt z t=szAt w m/\az (wd z t)=true:=by
 have b:=qF (eJ ho.2.2.2.1) ho.2.2.2.2.1;have a:ah (wd z t)={ ah (wd w m) with mark:=false }:=by rw[e,jf b];rfl
 refine⟨a,?_,by rw[e];exact jn b⟩;have:=congrArg Bk.size a;have c:(ah (wd z t)).size=((szAt z t:Nat):Int):=rfl;have d:({ ah (wd w m) with mark:=false }:Bk).size=((szAt w m:Nat):Int):=rfl;rw[c,d] at this;omega
theorem CO{M:List (Int × Int)}(D:CpD w z M T)(h0:af w=0)(hrc:ax w=0):∀(l:List Bk) (s:Nat),(∀p∈aq l s,p∈M)->(∀b∈l,∃j∈aa w,b=mkS w j)->aI l s=(T:Int)->blocks z s=some (mvB l s++frB w.length T):=by
 intro l
 induction l with
 | nil =>
  intro s _ _ a;have a:(s:Int)=(T:Int):=a;obtain rfl:s=T:=by omega
  exact z_free D (ao h0).1
 | cons b l ih =>
  intro s e v a;obtain⟨j,t,o⟩:=v b (by simp);obtain⟨m,r,m1,m2,m3,m4⟩:=(bG h0).1 j t;simp only[aq] at e;simp only[aI] at a;simp only[mvB];by_cases f:aK b=true
  .rw[if_pos f] at e a |-;have g:b.at_=(m:Int):=by rw[o,r];exact ab w m
   have d:b.size=((szAt w m:Nat):Int):=by rw[o,r];exact aV w m
   have h:=e (b.at_,(s:Int)) (by simp);obtain⟨G,I,i,F,q2,q3,q4,B,J,-⟩:=D.obj _ h;rw[g] at i;injection i with i e2;obtain rfl:m=G:=by omega
   obtain rfl:s=I:=by omega
   have H:=mB hrc F;obtain⟨C,A,E⟩:=EM H B;have hT:=D.to.2.1;have q:stands z s=true:=by unfold stands;rw[E,kzx,kzz,D.len];have:(ah (wd z s)).size=((szAt z s:Nat):Int):=rfl;rw[this,A];omega
   rw[d] at e a |-;have u:=ih (s+szAt w m) (λp y=>e p (kzj _ (by rw[show ((s:Int)+((szAt w m:Nat):Int))=((s+szAt w m:Nat):Int) by omega];exact y))) (λc x=>v c (kzj _ x)) (by rw[<-a];congr 1);rw[aG (by rw[D.len];omega) q,A,u];have n:bkAt z s={ b with at_:=(s:Int),mark:=false,next:=0 }:=by unfold bkAt;rw[C,J,o,r];rfl
   rw[n,d,show ((s+szAt w m:Nat):Int)=(s:Int)+((szAt w m:Nat):Int) by omega];rfl
  have k:aK b=false:=by simpa using f
  rw[k] at e a;simp only[kzp,if_false] at e a;rw[if_neg f];exact ih s e (λc x=>v c (kzj _ x)) a
theorem sC:∀ {l:List Bk} {s:Int} {b:Bk},b∈mvB l s->∃a∈l,aK a=true/\∃t,b={ a with at_:=t,mark:=false,next:=0 }/\(a.at_,t)∈aq l s:=by
 intro l
 induction l with
 | nil=>intro s b h;simp[mvB] at h
 | cons x l ih =>
  intro s b h;simp only[mvB] at h;simp only[aq];by_cases g:aK x=true
  .rw[if_pos g] at h |-;rcases kq0.1 h with rfl|h
   .exact ⟨x,by simp,g,s,rfl,by simp⟩
   obtain⟨a,c,d,t,f,e⟩:=ih h;exact⟨a,kzj _ c,d,t,f,kzj _ e⟩
  rw[if_neg g] at h |-;obtain⟨a,c,d,t,f,e⟩:=ih h;exact⟨a,kzj _ c,d,t,f,e⟩
theorem GX:∀ {l:List Bk} {s:Int} {p:Int × Int},p∈aq l s->∃b∈mvB l s,b.at_=p.2/\b.kind=1:=by
 intro l
 induction l with
 | nil=>intro s p h;simp[aq] at h
 | cons x l ih =>
  intro s p h;simp only[aq] at h;simp only[mvB];by_cases a:aK x=true
  .rw[if_pos a] at h |-;rcases kq0.1 h with rfl|h
   .exact ⟨_,List.mem_cons_self ..,rfl,by unfold aK at a;simp at a;exact a.1⟩
   obtain⟨b,c,d⟩:=ih h;exact⟨b,kzj _ c,d⟩
  rw[if_neg a] at h |-;exact ih h
theorem Cf:∀ {l:List Bk} {s:Int},(∀b∈l,0<b.size)->(∀p∈aq l s,s<=p.2)/\(aq l s).Pairwise (λp q=>p.2<q.2):=by
 intro l
 induction l with
 | nil=>intro s _;exact⟨λp h=>by simp[aq] at h,List.Pairwise.nil⟩
 | cons x l ih =>
  intro s h;have hx:=h x (by simp);simp only[aq];by_cases e:aK x=true
  .rw[if_pos e];obtain⟨d,f⟩:=ih (s:=s+x.size) (λb c=>h b (by simp[c]));refine⟨λp a=>?_,List.Pairwise.cons (λp a=>?_) f⟩
   .rcases kq0.1 a with rfl|a
    .exact kk6 _
    have:=d p a;omega
   have:=d p a;dsimp only;omega
  rw[if_neg e];exact ih (λb c=>h b (by simp[c]))
theorem ww:∀ {l:List Bk} {s:Int},(∀b∈l,0<b.size)->l.Pairwise (λa b=>a.at_+a.size<=b.at_)->(∀b∈l,s<=b.at_)->∀p∈aq l s,p.2<=p.1:=by
 intro l
 induction l with
 | nil=>intro s _ _ _ p h;simp[aq] at h
 | cons x l ih =>
  intro s h e g p c;rw[kjn] at e;simp only[aq] at c;have hx:=h x (by simp);have f:=g x (by simp);by_cases i:aK x=true
  .rw[if_pos i] at c;rcases kq0.1 c with rfl|c
   .exact f
   exact ih (λb d=>h b (by simp[d])) e.2 (λb d=>by have:=e.1 b d;omega) p c
  rw[if_neg i] at c;exact ih (λb d=>h b (by simp[d])) e.2 (λb d=>g b (by simp[d])) p c
theorem dI:∀ {M:List (Int × Int)} {a t:Int},M.Pairwise (λp q=>p.1<q.1)->(ed M a=some t↔(a,t)∈M):=by
 intro M
 induction M with
 | nil=>intro a t _;simp[ed]
 | cons p M ih =>
  intro a t h;rw[kjn] at h;simp only[ed];by_cases e:p.1=a
  .rw[if_pos e];constructor
   .intro b;injection b with b;rw[<-e,<-b];simp
   intro b;rcases kq0.1 b with c|c
   .rw[<-c]
   have:=h.1 _ c;dsimp only at this;omega
  rw[if_neg e,ih h.2];constructor
  .exact λh=>kzj _ h
  intro b;rcases kq0.1 b with c|c
  .rw[<-c] at e;exact absurd rfl e
  exact c
theorem Gr :∀i l,blocks ws i=some l->(∀b∈l,(i:Int)<=b.at_/\0<b.size)/\l.Pairwise (λa b=>a.at_+a.size<=b.at_):=by
 refine cV _ (λi _=>⟨λb h=>by simp at h,List.Pairwise.nil⟩) (λi l hi d hb c=>?_);have hsz:=aC d;refine⟨λb h=>?_,List.Pairwise.cons (λb h=>?_) c.2⟩
 .rcases kq0.1 h with rfl|h
  .rw[ab,aV];omega
  have:=c.1 b h;omega
 have:=(c.1 b h).1;rw[ab,aV];omega
section
variable {w z:List Nat} {t:Nat}
theorem sN{b:Bk}(h:b∈cpL w):∃a∈aa w,b=mkS w a:=by unfold cpL at h;obtain⟨a,c,rfl⟩:=kzi.1 h;exact⟨a,c,rfl⟩
theorem Gn(h0:af w=0):(∀b∈cpL w,128<=b.at_/\0<b.size)/\(cpL w).Pairwise (λa b=>a.at_+a.size<=b.at_):=by
 obtain⟨d,e⟩:=Gr _ _ (eY h0).2.2.2;refine⟨λb f=>?_,?_⟩
 .obtain ⟨g,c,rfl⟩:=sN f;exact d g c
 unfold cpL;rw[kxt];exact e
structure CpMv (w:List Nat):Prop where
 fst:(cpM w).map Prod.fst=aR w
 inc:(cpM w).Pairwise (λp q=>p.1<q.1)
 snd:(cpM w).Pairwise (λp q=>p.2<q.2)
 dn:∀p∈cpM w,128<=p.2/\p.2<=p.1
theorem cpMv(h0:af w=0)(hf:(cpM w).map Prod.fst=aR w)(hrc:ax w=0):CpMv w:=by obtain⟨c,f⟩:=Gn h0;have d:=Cf (l:=cpL w) (s:=128) (λb a=>(c b a).2);have g:=ww (l:=cpL w) (s:=128) (λb a=>(c b a).2) f (λb a=>(c b a).1);refine⟨hf,?_,d.2,λp e=>⟨d.1 p e,g p e⟩⟩;have:=kp hrc;rw[<-hf,kxt] at this;exact this
theorem Lay.mvs(h:Lay w t)(ho:∀v∈w,v<18446744073709551616):CpMv w:=by have a:=Fa h.first.2.2.1 (h.run ho);rw[(x1_cp h.hp).2,h.first.2.2.2] at a;exact cpMv h.hp a h.rc
theorem CpMv.to(V:CpMv w)(hrc:ax w=0)(h:Rch w m):∃a:Nat,ed (cpM w) (m:Int)=some (a:Int)/\128<=a/\a<=m:=by obtain⟨t,b⟩:=EC (M:=cpM w) (a:=(m:Int)) (by rw[V.fst,cO hrc];exact⟨m,rfl,nL ((aA hrc).2.2 m h),h⟩);have c:=(dI V.inc).1 b;have:=V.dn _ c;dsimp only at this;obtain⟨a,rfl⟩:=kq5 (show 0<=t by omega);exact⟨a,b,by omega,by omega⟩
theorem CpMv.rch(V:CpMv w)(hrc:ax w=0){m a:Int}(h:ed (cpM w) m=some a):∃b:Nat,m=(b:Int)/\Rch w b:=by have c:=(dI V.inc).1 h;have:m∈(cpM w).map Prod.fst:=kzi.2 ⟨_,c,rfl⟩;rw[V.fst,cO hrc] at this;obtain⟨b,e,-,h⟩:=this;exact⟨b,e,h⟩
theorem CpMv.inj(V:CpMv w){m m' a:Int}(h:ed (cpM w) m=some a)(h':ed (cpM w) m'=some a):m=m':=by
 have k:=(dI V.inc).1 h;have l:=(dI V.inc).1 h';obtain⟨i,f,d⟩:=kqu k;obtain⟨j,g,c⟩:=kqu l;have e:=V.snd;rw[kzf] at e;rcases kjt i j with b|b|b
 .have:=e i j f g b;rw[d,c] at this;dsimp only at this;omega
 .subst b;rw[d] at c;injection c
 have:=e j i g f b;rw[d,c] at this;dsimp only at this;omega
end
theorem sp8_eq(hl:z.length=w.length)(h:∀i,i<8->wd z (a+i)=wd w (a+i))(ha:a+8<=w.length):sp8 z a=sp8 w a:=by
 apply List.ext_getElem
 .rw[kY (by omega),kY ha]
 intro i b h2;rw[kY (by omega)] at b;have e:∀(x:List Nat) (c:i<(sp8 x a).length),(sp8 x a)[i]=wd (sp8 x a) i:=λx c=>by rw[ce c]
 rw[e,e,kx b,kx b,h i b]
theorem tyN_eq(hl:z.length=w.length)(h:∀i,i<16->wd z i=wd w i)(hs:al (w.length:Int)=true):tyN z=tyN w:=by
 have hb:=(ac _).1 hs;have b:∀a,a+8<=16->jL z a=jL w a:=λa ha=>by
  unfold jL;rw[sp8_eq hl (λi hi=>h _ (by omega)) (by omega),h _ (by omega),hl]
 unfold tyN;rw[b 0 (by omega),b 8 (by omega),h 3 (by omega),h 11 (by omega)]
theorem wr_of(h0:af z=0)(ht8:t<=8)(h:∀a,cb z a->(ah (wd z a)).mark=false/\wd z (a+1)=0/\(ah (wd z a)).typ.toNat<t/\szAt z a=aP (flds z a).length/\((flds z a).length+2<szAt z a->wd z (a+2+(flds z a).length)=0)/\(∀i,(flds z a)[i]? = some 2->nE (wd z (a+2+i))=true)/\∀i,(flds z a)[i]? = some 3->wd z (a+2+i)=0\/cb z (wd z (a+2+i))):
 ∀r,7<=r->r<12->∀b∈objs (aa z),wrK z (eB z t 8) (objs (aa z)) r b=false:=by
 intro r h7 h12 b C;obtain⟨q,j⟩:=kzv.1 C;rw[kqx] at j;obtain⟨k,E,rfl⟩:=kqu q;obtain⟨a,o,w⟩:=ju h0 E j;have s:bkAt z a=⟨(a:Int),((szAt z a:Nat):Int),(ah (wd z a)).kind,(((ah (wd z a)).typ.toNat:Nat):Int),(ah (wd z a)).mark,wd z (a+1)⟩:=by
  have B:(ah (wd z a)).typ=(((ah (wd z a)).typ.toNat:Nat):Int):=by unfold ah;dsimp only;omega
  rw[<-B];rfl
 rw[o,s,kw];obtain⟨u,D,l,v,A,y,p⟩:=h a w;have x:(eB z t 8)[(ah (wd z a)).typ.toNat]? = some (flds z a):=sr ht8 l;unfold wrB;rw[x,kq2];by_cases m:r=7
 .rw[if_pos m,u,D];rfl
 rw[if_neg m];by_cases f:r=8
 .rw[if_pos f,v,jZ,kxb ht8,decide_eq_true l];simp
 rw[if_neg f];by_cases g:r=9
 .rw[if_pos g];by_cases n:(flds z a).length+2<szAt z a
  .rw[A n];simp
  rw[decide_eq_false n];rfl
 rw[if_neg g,kx5];intro i _;unfold wrF;by_cases d:r=10
 .rw[if_pos d];by_cases c:(flds z a)[i]? = some 2
  .rw[y i c];simp
  rw[show ((flds z a)[i]? == some 2)=false by rw[kqi];exact c];simp
 rw[if_neg d];by_cases c:(flds z a)[i]? = some 3
 .rcases p i c with e|e
  .rw[e];simp
  rw[(ms h0).2 e];simp
 rw[show ((flds z a)[i]? == some 3)=false by rw[kqi];exact c];simp
theorem Ge{n:Nat}(h:∀b∈l,b.kind=1):js (l++frB n T)=true:=by
 rw[jQ];intro j c;unfold mL;by_cases d:j=0
 .subst d;rfl
 have hlen:(frB n T).length<=1:=by unfold frB;split<;>simp
 rw[kqw] at c;have a:j-1<l.length:=by omega
 have e:gk (l++frB n T) (j-1)=l[j-1]:=by unfold gk;rw[kj2 a,kqj a,kq2]
 rw[e,h _ (kqm a)];simp
section
variable {w z:List Nat} {t:Nat}
structure CpR (w z:List Nat) (t:Nat):Prop where
 L:Lay w t
 D:CpD w z (cpM w) (cpT w)
 E:aI (cpL w) 128=(cpT w:Int)
 V:CpMv w
theorem CpR.hp(R:CpR w z t):af z=0/\aa z=mvB (cpL w) 128++frB w.length (cpT w):=by
 have h:=R.L.hp;have i:=CO R.D h R.L.rc (cpL w) 128 (λp hp=>hp) (λb i=>sN i) R.E;refine eV (by rw[R.D.len];exact R.L.size) i ?_;rw[kzq];intro b a;rcases kzo.1 a with a|a
 .obtain ⟨b1,o,f,tt,rfl,-⟩:=sC a;obtain⟨c,g,rfl⟩:=sN o;obtain⟨h4,l,q,m,j⟩:=ao h;rw[kzq] at m;have d:=m c (by rw[<-j];exact g);have n:c.kind=1:=by unfold aK mkS at f;simp at f;exact f.1
  have hty:=gA q (by omega) c (by rw[<-j];exact g) n;have hk0:0<=c.typ/\c.typ<8:=by obtain⟨k,e,rfl⟩:=kqu g;exact gG (eY h).2.2.2 (by omega) e n
  unfold dm cD at d |-;show (c.kind != 1||(bN (wd z (tyA c)) (wd z (tyA c+1))&&c.size==((aP (wd z (tyA c)%256):Nat):Int)))=true;rw[R.D.low _ (by unfold tyA;omega),R.D.low _ (by unfold tyA;omega)];exact d
 unfold frB at a;split at a
 .cases a
 rw[kq1] at a;subst a;rfl
theorem CpR.obj(R:CpR w z t):cb z a↔∃m:Nat,Rch w m/\ed (cpM w) (m:Int)=some (a:Int):=by
 obtain⟨C,q⟩:=R.hp;constructor
 .intro u;obtain⟨k,i,e,-⟩:=u.2.2.2.2.2.2;have c:bkAt z a∈aa z:=by rw[<-e];exact kqm i
  have g:=u.2.2.2.2.1;rw[q] at c;rcases kzo.1 c with c|c
  .obtain ⟨A,r,h,B,n,v⟩:=sC c;have d:=congrArg Bk.at_ n;rw[ab] at d;have d:(a:Int)=B:=d;rw[<-d] at v;have p:=(dI R.V.inc).2 (show (A.at_,(a:Int))∈cpM w from v);obtain⟨m,j,o⟩:=R.V.rch R.L.rc p;exact⟨m,o,by rw[<-j];exact p⟩
  exfalso;unfold frB at c;split at c
  .cases c
  rw[kq1] at c;have d:=congrArg Bk.kind c;have:(bkAt z a).kind=(ah (wd z a)).kind:=rfl;rw[this,g] at d;have d:(1:Int)=2:=d;omega
 rintro ⟨m,o,c⟩;obtain⟨b,r,h,n⟩:=GX (l:=cpL w) (s:=128) ((dI R.V.inc).1 c);have f:b∈aa z:=by rw[q];exact List.mem_append_left _ r
 obtain⟨k,i,rfl⟩:=kqu f;obtain⟨y,x,j⟩:=ju C i n;rw[x,ab] at h;obtain rfl:y=a:=by dsimp only at h;omega
 exact j
theorem CpR.at_(R:CpR w z t)(hm:ed (cpM w) (m:Int)=some (a:Int)):cb w m/\ah (wd z a)={ ah (wd w m) with mark:=false }/\szAt z a=szAt w m/\wd z (a+1)=0/\flds z a=flds w m/\128<=a/\a<=m/\(∀i,(flds w m)[i]? = some 3->FxV (cpM w) (wd w (m+2+i)) (wd z (a+2+i)))/\∀i,2+i<szAt w m->(flds w m)[i]? ≠ some 3->wd z (a+2+i)=wd w (m+2+i):=by
 have b:=(dI R.V.inc).1 hm;obtain⟨n,k,e,h,q2,q3,q4,j,p,o,g⟩:=R.D.obj _ b;injection e with e1 e2;obtain rfl:m=n:=by omega
 obtain rfl:a=k:=by omega
 have c:=R.L.rch h;obtain⟨d,f,h3⟩:=EM c j;have l:=R.V.dn _ b;dsimp only at l;have ht:=lc c;refine⟨c,d,f,p,?_,by omega,by omega,o,g⟩;unfold flds;rw[d];dsimp only;rw[R.D.low _ (by omega),R.D.low _ (by omega)]
theorem CpR.slot(R:CpR w z t)(hi:i<16):(slAt z i).gen=(slAt w i).gen/\(slAt z i).used=(slAt w i).used/\((slAt w i).used=true->∃a:Nat,ed (cpM w) (slAt w i).at_=some (a:Int)/\(slAt z i).at_=(a:Int))/\((slAt w i).used=false->slAt z i=slAt w i):=by
 have h:=R.D.sl i hi;unfold nwS at h;cases b:(slAt w i).used with
 | true =>rw[b,if_pos rfl] at h;have d:=Rch.slot (ws:=w) i hi b;obtain⟨a,c,h2,h3⟩:=R.V.to R.L.rc d;have e:(((slAt w i).at_.toNat:Nat):Int)=(slAt w i).at_:=kx2 (dt (wd w (112+i))).2.2.1;rw[e] at c;rw[c] at h;rw[h];exact⟨rfl,rfl,λ_=>⟨a,c,rfl⟩,λh=>(by cases h)⟩
 | false =>rw[b] at h;simp only[kzp,if_false] at h;rw[h];exact⟨rfl,b,λh=>(by cases h),λ_=>rfl⟩
theorem CpR.lay(R:CpR w z t):Lay z t:=by
 obtain⟨F,Q⟩:=R.hp;have T:al (z.length:Int)=true:=by rw[R.D.len];exact R.L.size
 have N:=(ac _).1 R.L.size;have A:=m9 R.L.ty;have d:=R.D.low;refine⟨T,?_,λi B C=>?_,?_,?_,F,?_,wr_of F A λa y=>?_,λi c=>?_⟩
 .rw[tyN_eq R.D.len (λi c=>d i (.inl c)) R.L.size];exact R.L.ty
 .rcases kq9 i 19 with l|l
  .obtain ⟨l1,l2,l3⟩:=R.D.line;have:i=16\/i=17\/i=18:=by omega
   rcases this with rfl|rfl|rfl<;>assumption
  rw[d i (by omega)];exact R.L.z16 i B C
 .have:=(fI w t).1 R.L.tys;rw[fI];intro i c;have l:=this i c;unfold Au at l |-;rw[d _ (by omega),d _ (by omega)];exact l
 .rw[bQ];intro i c;have M:=(bQ w).1 R.L.sls i c;obtain⟨n,h,k,o⟩:=R.slot c;cases f:(slAt w i).used with
  | false=>rw[o f];exact M
  | true =>obtain⟨a,g,u⟩:=k f;obtain⟨u1,-,-⟩:=s7 M f;obtain⟨m,x,r⟩:=R.V.rch R.L.rc g;obtain⟨y,-,-,-,-,k1,k2,-⟩:=R.at_ (m:=m) (a:=a) (by rw[x] at g;exact g);unfold lL;rw[h,f,if_pos rfl,n,u];have:=y.2.2.1;simp only[kqz,kzz];omega
 .rw[Q];refine Ge λb N=>?_;obtain⟨b1,q1,s,tt,rfl,-⟩:=sC N;unfold aK at s;simp at s;exact s.1
 .obtain ⟨m,r,O⟩:=R.obj.1 y;obtain⟨v,n,h,k,o,g5,g6,P,G⟩:=R.at_ O;obtain⟨f1,f2,U,J,K,H⟩:=R.L.obj v;rw[n,h,o];refine⟨rfl,k,U,K,λhp=>?_,λi c=>?_,λi c=>?_⟩
  .rw[G _ (by omega) (by rw[kzd (kqg _)];simp)];have I:(decide ((((eB w t 8)[(ah (wd w m)).typ.toNat]?).getD []).length+2<szAt w m)&&wd w (m+2+(((eB w t 8)[(ah (wd w m)).typ.toNat]?).getD []).length) != 0)=false:=H 9 (by omega) (by omega);rw[J,kq2,decide_eq_true hp,kzx,kqq] at I;exact I
  .have q:=(kq7.1 c).1;rw[G i (by rw[K];unfold aP;omega) (by rw[c];simp)];have j:((List.range (((eB w t 8)[(ah (wd w m)).typ.toNat]?).getD []).length).any λi=>wrF w (((eB w t 8)[(ah (wd w m)).typ.toNat]?).getD []) (objs (aa w)) m 10 i)=false:=H 10 (by omega) (by omega);rw[J,kq2,kx5] at j;have:=j i (kq8.2 q);unfold wrF at this;rw[if_pos rfl,c] at this
   simpa using this
  rcases P i c with⟨-,p⟩|⟨h4,p⟩
  .exact .inl p
  obtain⟨S,e,E⟩:=R.V.rch R.L.rc p;exact .inr (R.obj.2 ⟨S,E,by rw[<-e];exact p⟩)
 obtain⟨n,h,k,o⟩:=R.slot c;unfold iH;cases f:(slAt w i).used with
 | false=>rw[h,f];rfl
 | true =>obtain⟨a,g,u⟩:=k f;obtain⟨m,x,r⟩:=R.V.rch R.L.rc g;rw[u,kqk,(ms F).2 (R.obj.2 ⟨m,r,by rw[<-x];exact g⟩)];simp
theorem CpR.rch(R:CpR w z t):Rch z a↔∃m:Nat,Rch w m/\ed (cpM w) (m:Int)=some (a:Int):=by
 constructor
 .intro r;exact R.obj.1 (R.lay.rch r)
 rintro ⟨m,d,c⟩;have k:∀m,Rch w m->∀a:Nat,ed (cpM w) (m:Int)=some (a:Int)->Rch z a:=by
  intro m d
  induction d with
  | slot i hi hu =>intro a c;obtain⟨x,l,p,n⟩:=R.slot hi;obtain⟨A,v,u⟩:=p hu;have B:(((slAt w i).at_.toNat:Nat):Int)=(slAt w i).at_:=kx2 (dt (wd w (112+i))).2.2.1;rw[B,v] at c;injection c with c;have:=Rch.slot (ws:=z) i hi (by rw[l];exact hu);rw[u,kqk] at this;rwa [show A=a by omega] at this
  | ref m i d ht hf hv ih =>
   intro a c;obtain⟨b,j,b2,b3⟩:=R.V.to R.L.rc d;have y:=ih b j;obtain⟨f,x,l,p,n,g5,g6,s,g8⟩:=R.at_ j;have h:=R.obj.2 ⟨m,d,j⟩;rcases s i hf with⟨o,-⟩|⟨o,q⟩
   .exact absurd o hv
   have g:=R.L.ref f hf hv;have h2048:wd w (m+2+i)<2048:=by have:=g.2.2.1;have:=(ac _).1 R.L.size;omega
   rw[kxb (by omega)] at c;rw[q] at c;injection c with c;have e:=R.obj.2 ⟨wd w (m+2+i),by have:=Rch.ref m i d ht hf hv;rwa [kxb (by omega)] at this,q⟩;have h3:=e.1;have:=Rch.ref (ws:=z) b i y (yk R.hp.1 h).2 (by rw[n];exact hf) (by omega);have hle:wd z (b+2+i)<2048:=by have:=e.2.2.1;have:=(ac _).1 R.lay.size;omega
   rw[kxb (by omega)] at this;rwa [show wd z (b+2+i)=a by omega] at this
 exact k m d a c
theorem CpR.out(R:CpR w z t):aR z=(cpM w).map Prod.snd:=by
 refine sq (kp R.lay.rc) (by rw[kxt];exact R.V.snd) λx=>?_;rw[cO R.lay.rc,kzi];constructor
 .rintro ⟨a,rfl,-,b⟩;obtain⟨m,-,c⟩:=R.rch.1 b;exact⟨_,(dI R.V.inc).1 c,rfl⟩
 rintro ⟨p,d,rfl⟩;obtain⟨m,a,rfl,e,q2,-⟩:=R.D.obj p d;have c:=(dI R.V.inc).2 d;have b:=R.rch.2 ⟨m,e,c⟩;exact⟨a,rfl,nL ((aA R.lay.rc).2.2 a b),b⟩
end
theorem Lay.cp(h:Lay w t)(ho:∀v∈w,v<18446744073709551616):CpR w (cpZ w) t:=⟨h,(h.desc ho).1,(h.desc ho).2,h.mvs ho⟩
theorem Lay.lt(h:Lay w t)(ho:∀v∈w,v<18446744073709551616):∀v∈cpZ w,v<18446744073709551616:=by have F:=h.run ho;unfold cpZ vE;exact pj _ _ F.o4 (pC F.en).1.val
section
variable {w z:List Nat} {t:Nat}
end
end Go.Proofs.YtpcajamacpbjcaaGreat
