/- Texts laid together: LyQ CpE CpG CpH CpI. -/
import Derived.Test.YtpcajamacpbjcaaGreatZKR19
import Derived.Test.YtpcajamacpbjcaaGreatZKCp1
set_option maxHeartbeats 16000000
set_option linter.all false
namespace Go.Proofs.YtpcajamacpbjcaaGreat
open Go.RowKit
variable {ws:List Nat}{a i t:Nat}
structure Lay (ws:List Nat) (t:Nat):Prop where
 size:ak (ws.length:Int)=true
 ty:tyN ws=some t
 z16:∀i,16<=i->i<32->wd ws i=0
 tys:gH ws t=true
 sls:slsOk ws=true
 hp:ag ws=0
 adj:jY (aa ws)=true
 wr:∀r,7<=r->r<12->∀b∈aK (aa ws),wrK ws (gx ws t 8) (aK (aa ws)) r b=false
 sl:∀i,i<16->jI (aK (aa ws)) (slAt ws i)=true
theorem sR(h:tyN ws=some t):ak (ws.length:Int)=true:=by
 cases a:ak (ws.length:Int) with
 | true=>rfl
 | false=>rw[(rF a).1] at h;cases h
theorem lD(ws:List Nat)(T:List (List Nat))(O:List Bk)(r a z ty:Nat)(k:Int)(mk:Bool)(nx:Nat):wrK ws T O r ⟨(a:Int),(z:Int),k,(ty:Int),mk,nx⟩=wrB ws T O a z ty mk nx r:=by unfold wrK;simp only[kqj]
theorem yh(ht:t<=8)(hi:i<t):(gx ws t 8)[i]? = some (bc (wd ws (96+2*i)) (wd ws (96+2*i+1))):=by unfold gx;rw[kjr ht,kxd,kqm (by rw[kkc];exact hi)];simp
theorem lay_hp{l:List Bk}(ht:tyN ws=some t)(hl:blocks ws 128=some l)(hty:gH ws t=true)(h8:∀b∈aK l,wrK ws (gx ws t 8) (aK l) 8 b=false):ag ws=0/\aa ws=l:=by
 refine fT (sR ht) hl ?_;rw[kzq];intro b n;by_cases j:b.kind=1
 .have d:b∈aK l:=kzu.2 ⟨n,by rw[kqu];exact j⟩;have h:=h8 b d;obtain⟨a,z,g,nx,mk,e,a1,a2,a3,a4,a5⟩:=gv hl d;rw[gI j];rw[e] at h;rw[lD] at h;have h:(!decide (g<(gx ws t 8).length)||aX (((gx ws t 8)[g]?).getD []).length != z)=false:=h;rw[kzo] at h;have i:=uc ht;have f:g<t:=by have:=h.1;rw[ua] at this;simp at this;omega
  rw[yh i f,kq4] at h;have c:=(i9 ws t).1 hty g (by omega);unfold Ai at c;rw[if_pos f] at c;have k:=h.2;rw[kqp] at k;have m:tyA b=96+2*g:=by rw[e];unfold tyA;simp
  have o:b.size=(z:Int):=by rw[e]
  rw[m,c,o,<-k];simp
 rw[d6 j]
theorem qk(h:lay ws=true):∃t,Lay ws t:=by
 cases a:tyN ws with
 | none=>rw[oG (.inl a)] at h;cases h
 | some t =>
  cases d:blocks ws 128 with
  | none=>rw[oG (.inr d)] at h;cases h
  | some l =>
   obtain⟨f,e,j,n,p,g,o⟩:=(pJ a d).1 h;obtain⟨r,c⟩:=lay_hp a d j (λb k=>g 8 (by omega) (by omega) b k);refine⟨t,sR a,a,λi hi1 hi2=>?_,j,n,r,by rw[c];exact p,by rw[c];exact g,λi m=>by
    rw[c];exact o _ (kzy.2 ⟨i,kzh.2 m,rfl⟩)⟩
   rw[mX] at f e;rcases kq6 i 24 with q|q
   .have:=f (i-16) (by omega);rwa [show 16+(i-16)=i by omega] at this
   have:=e (i-24) (by omega);rwa [show 24+(i-24)=i by omega] at this
section
variable {ws:List Nat} {t:Nat}
theorem sF(h0:ag ws=0){v:Nat}:lK (aK (aa ws)) v=true↔eg ws v:=by
 unfold lK;rw[kxn];constructor
 .rintro ⟨b,g,e⟩;rw[kqu] at e;obtain⟨i,f⟩:=kzu.1 g;rw[kqu] at f;obtain⟨k,c,rfl⟩:=kqv i;obtain⟨a,h,j⟩:=lw h0 c f;rw[h,ab] at e;obtain rfl:a=v:=by omega
  exact j
 intro d;obtain⟨k,c,e,-⟩:=d.2.2.2.2.2.2;exact⟨bkAt ws v,kzu.2 ⟨by rw[<-e];exact kqs c,by rw[kqu];exact d.2.2.2.2.1⟩,by rw[kqu,ab]⟩
theorem DM(ho:eg ws a):bkAt ws a∈aK (aa ws):=by obtain⟨k,b,e,-⟩:=ho.2.2.2.2.2.2;exact kzu.2 ⟨by rw[<-e];exact kqs b,by rw[kqu];exact ho.2.2.2.2.1⟩
theorem Lay.obj(h:Lay ws t)(ho:eg ws a):(ah (wd ws a)).mark=false/\wd ws (a+1)=0/\(ah (wd ws a)).typ.toNat<t/\(gx ws t 8)[(ah (wd ws a)).typ.toNat]? = some (flds ws a)/\szAt ws a=aX (flds ws a).length/\(∀r,7<=r->r<12->wrB ws (gx ws t 8) (aK (aa ws)) a (szAt ws a) (ah (wd ws a)).typ.toNat (ah (wd ws a)).mark (wd ws (a+1)) r=false):=by
 have i:=DM ho;have m:bkAt ws a=⟨(a:Int),((szAt ws a:Nat):Int),(ah (wd ws a)).kind,(((ah (wd ws a)).typ.toNat:Nat):Int),(ah (wd ws a)).mark,wd ws (a+1)⟩:=by
  have j:(ah (wd ws a)).typ=(((ah (wd ws a)).typ.toNat:Nat):Int):=by unfold ah;dsimp only;omega
  rw[<-j];rfl
 have b:∀r,7<=r->r<12->wrB ws (gx ws t 8) (aK (aa ws)) a (szAt ws a) (ah (wd ws a)).typ.toNat (ah (wd ws a)).mark (wd ws (a+1)) r=false:=by intro r l k;have:=h.wr r l k _ i;rw[m,lD] at this;exact this
 have f:((ah (wd ws a)).mark||decide (0<wd ws (a+1)))=false:=b 7 (by omega) (by omega);rw[kzo,kqc] at f;have d:(!decide ((ah (wd ws a)).typ.toNat<(gx ws t 8).length)||aX (((gx ws t 8)[(ah (wd ws a)).typ.toNat]?).getD []).length != szAt ws a)=false:=b 8 (by omega) (by omega);rw[kzo,kqp] at d;have e:=uc h.ty;have c:(ah (wd ws a)).typ.toNat<t:=by have:=d.1;rw[ua] at this;simp at this;omega
 have g:=yh (ws:=ws) e c;rw[g,kq4] at d;exact⟨f.1,by omega,c,g,d.2.symm,b⟩
theorem Lay.ref(h:Lay ws t)(ho:eg ws a)(hi:(flds ws a)[i]? = some 3)(hv:wd ws (a+2+i)≠0):eg ws (wd ws (a+2+i)):=by
 obtain⟨-,-,-,f,-,e⟩:=h.obj ho;have b:=e 11 (by omega) (by omega);have b:((List.range (((gx ws t 8)[(ah (wd ws a)).typ.toNat]?).getD []).length).any λi=>wrF ws (((gx ws t 8)[(ah (wd ws a)).typ.toNat]?).getD []) (aK (aa ws)) a 11 i)=false:=b;rw[f,kq4,kj0] at b;have c:=(kzc.1 hi).1;have:=b i (kzh.2 c);unfold wrF at this;rw[if_neg (by decide),hi] at this;simp only[beq_self_eq_true,kzz,Bool.not_eq_true,kjg,kqc,kkr] at this;rw[<-sF h.hp];rcases this with d|d
 .omega
 exact d
theorem Lay.slot(h:Lay ws t)(hi:i<16)(hu:(slAt ws i).used=true):eg ws (slAt ws i).at_.toNat:=by
 have:=h.sl i hi;unfold jI at this;rw[hu] at this;rw[<-sF h.hp]
 simpa using this
theorem Lay.rch(h:Lay ws t)(ha:Rch ws a):eg ws a:=by
 induction ha with
 | slot i hi hu=>exact h.slot hi hu
 | ref _ i _ _ hf hv ih =>have b:=h.ref ih hf hv;have hlt:=b.2.2.1;have hb:=(af _).1 h.size;rw[kjr (by omega)];exact b
theorem Lay.rc(h:Lay ws t):aF ws=0:=BA h.hp h.sls λ_ a=>(obj_tb h.hp (h.rch a)).2
end
def gF (ws:List Nat):List Nat:=aj ws [⟨16,1⟩]
noncomputable def cpZ (ws:List Nat):List Nat:=vE (gF ws)
noncomputable def cpT (ws:List Nat):Nat:=(aD (cpL ws) 128).toNat
theorem fB(ws:List Nat):(gF ws).length=ws.length:=aE _ _
theorem lM(h:i≠16):wd (gF ws) i=wd ws i:=bg _ _ _ λe a=>by rw[kq7] at a;subst a;dsimp only;omega
theorem pK(ho:∀v∈ws,v<18446744073709551616):∀v∈gF ws,v<18446744073709551616:=sj _ _ ho λe a=>by rw[kq7] at a;subst a;dsimp only;omega
theorem Ap(ws:List Nat):NxL ws (gF ws):=oU λe a=>by rw[kq7] at a;subst a;exact .inl (by dsimp only;omega)
theorem x1_hp(h0:ag ws=0):ag (gF ws)=0/\aa (gF ws)=aa ws:=by obtain⟨e,d⟩:=((Ap ws).ev h0).heap h0;refine⟨e,?_⟩;rw[d,kz8 (g:=id) (λb c=>?_),List.map_id];obtain⟨a,rfl,a1,-⟩:=(cb h0).1 b c;show nxB (gF ws) (bkAt ws a)=bkAt ws a;unfold nxB;refine rI ?_;rw[ab,kqj,lM (by omega)];rfl
theorem Df(h0:ag ws=0):seenL (gF ws)=seenL ws:=by unfold seenL;rw[fB];refine kz8 λa _=>?_;exact decide_eq_decide.2 ((Ap ws).rch h0 a)
theorem x1_cp(h0:ag ws=0):cpL (gF ws)=cpL ws/\cpM (gF ws)=cpM ws:=by
 have e:cpL (gF ws)=cpL ws:=by unfold cpL;rw[(x1_hp h0).2];refine kz8 λb _=>?_;unfold mkS cE;rw[Df h0]
 exact⟨e,by unfold cpM;rw[e]⟩
theorem Lay.first(h:Lay ws t):wd (gF ws) 16=1/\aw (gF ws)=0/\aF (gF ws)=0/\dY (gF ws)=dY ws:=by
 have hb:=(af _).1 h.size;have b:wd (gF ws) 16=1:=kc (j:=16) (l:=[]) (by omega) (λe i=>by cases i);obtain⟨d,f,g⟩:=(Ap ws).same h.hp;have a:=h.z16;have c:cH (gF ws)=0:=by
  refine xG (by rw[fB];exact h.size) ?_ ?_
  .rw[aY,fB,b,lM (by omega),lM (by omega),lM (by omega),lM (by omega),lM (by omega),lM (by omega),lM (by omega),a 17 (by omega) (by omega),a 18 (by omega) (by omega),a 19 (by omega) (by omega),a 20 (by omega) (by omega),a 21 (by omega) (by omega),a 22 (by omega) (by omega),a 23 (by omega) (by omega)];omega
  rw[b,lM (by omega),lM (by omega),a 17 (by omega) (by omega),a 18 (by omega) (by omega)];rfl
 exact⟨b,vv c (by omega) (by omega) d,by rw[f];exact h.rc,g⟩
section
variable {ws:List Nat} {t:Nat}
theorem Lay.run(h:Lay ws t)(ho:∀v∈ws,v<18446744073709551616):CpF (gF ws):=by obtain⟨a,b,c,-⟩:=h.first;exact cpF (pK ho) a b c
theorem Lay.desc(h:Lay ws t)(ho:∀v∈ws,v<18446744073709551616):CpD ws (cpZ ws) (cpM ws) (cpT ws)/\aD (cpL ws) 128=(cpT ws:Int):=by
 have q:=h.hp;obtain⟨p16,-,r,-⟩:=h.first;obtain⟨D,E⟩:=(h.run ho).desc r;obtain⟨s,H⟩:=x1_cp q;rw[s,H] at D;rw[s] at E
 change CpD (gF ws) (cpZ ws) (cpM ws) (cpT ws) at D
 refine⟨?_,E⟩;have a:∀ {i:Nat},17<=i->wd (gF ws) i=wd ws i:=λh=>lM (by omega);have w:=(Ap ws).rch q;have k:∀i,i<16->slAt (gF ws) i=slAt ws i:=λi b=>by unfold slAt;rw[a (by omega)]
 have g:∀ {m:Nat},128<=m->szAt (gF ws) m=szAt ws m:=λd=>by unfold szAt;rw[a (by omega)]
 have j:∀ {m:Nat},128<=m->flds (gF ws) m=flds ws m:=λd=>by unfold flds;rw[a (by omega),a (by omega),a (by omega)]
 refine⟨D.len.trans (fB ws),λi b=>(D.low i b).trans (lM (by omega)),D.line,λi b=>?_,λp hp=>?_,by rw[<-fB ws];exact D.to,λn=>?_,λi b C d=>?_⟩
 .rw[D.sl i b];unfold nwS;rw[k i b]
 .obtain ⟨m,A,e,J,F,u,y,z,B,x,o⟩:=D.obj p hp;have d:=(w m).1 J;have c:=(h.rch d).1;rw[g c] at u y o;rw[a (by omega)] at z;rw[j c] at x o;refine⟨m,A,e,d,F,u,y,z,B,λi b=>?_,λi I G=>?_⟩
  .have:=x i b;rwa [a (by omega)] at this
  have:=o i I G;rwa [a (by omega)] at this
 .have:=D.free (by rw[fB];exact n);rwa [fB] at this
 rw[D.rest i b (by rw[(x1_hp q).2];exact C) (λm l=>?_),a (by have:=D.to.1;omega)];have f:=(w m).1 l;rw[g (h.rch f).1];exact d m f
end
theorem yL :∀i l,blocks ws i=some l->(∀b∈l,(i:Int)<=b.at_/\0<b.size)/\l.Pairwise (λa b=>a.at_+a.size<=b.at_):=by
 refine dr _ (λi _=>⟨λb h=>by simp at h,List.Pairwise.nil⟩) (λi l hi d hb c=>?_);have hsz:=ax d;refine⟨λb h=>?_,List.Pairwise.cons (λb h=>?_) c.2⟩
 .rcases kq0.1 h with rfl|h
  .rw[ab,aP];omega
  have:=c.1 b h;omega
 have:=(c.1 b h).1;rw[ab,aP];omega
section
variable {w z:List Nat} {t:Nat}
structure CpMv (w:List Nat):Prop where
 fst:(cpM w).map Prod.fst=dY w
 inc:(cpM w).Pairwise (λp q=>p.1<q.1)
 snd:(cpM w).Pairwise (λp q=>p.2<q.2)
 dn:∀p∈cpM w,128<=p.2/\p.2<=p.1
end
section
variable {w z:List Nat} {t:Nat}
structure CpR (w z:List Nat) (t:Nat):Prop where
 L:Lay w t
 D:CpD w z (cpM w) (cpT w)
 E:aD (cpL w) 128=(cpT w:Int)
 V:CpMv w
end
section
variable {w z:List Nat} {t:Nat}
end
end Go.Proofs.YtpcajamacpbjcaaGreat
