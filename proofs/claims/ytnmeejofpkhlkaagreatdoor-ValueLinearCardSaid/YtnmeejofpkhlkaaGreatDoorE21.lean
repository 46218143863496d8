/- Part of a claim. -/
import Derived.Test.YtnmeejofpkhlkaaGreatDoorE19
import Derived.Test.YtnmeejofpkhlkaaGreatDoorE20
set_option linter.all false
set_option maxRecDepth 100000
set_option maxHeartbeats 12800000
namespace Go.Proofs.YtnmeejofpkhlkaaGreatDoor
open Array.mk renaming injEq->Js
open Go.RowKit.Below renaming refl->F9
open Below renaming same'->FZ
open Go.IntKind renaming i64->F5
open Go renaming Value->F7,World->FW
open Go.Value renaming bool->Gj,int->F6,slice->FQ
open List.cons renaming injEq->Jd
open List renaming getD_eq_getElem?_getD->FU,getElem?_map->Gi,getElem?_set_ne->Ia,getElem?_set_self->Ib,length_map->FX,length_set->He,map->GK,map_set->Jb,mem_cons_of_mem->GI,mem_cons_self->I9,mem_map_of_mem->IZ,mem_of_getElem?->FT,replicate->F8,take_of_length_le->Gl
open Nat renaming le_refl->FV,le_trans->Gf,mul_one->Gp
open Option renaming getD_some->Ht
open Same renaming refl->Gh
open Go.Proofs.Tryz renaming prog->FY
open Go.World renaming block_lt_of_cell?->Gg
open Lib renaming hid → Ac
open Go.RowKit
variable {F:FI} {a ay:Int} {m:List (List Rat)} {mr:List (List Raw)} {P U place up:List Int} {l:List Raw} {bp i k ni:Nat}
def fH (g:Gm) (m:List (List Raw)):Int:=if bF g≠0 then bF g else kS (g.Fh.map Inf.actions) m
theorem FM.below {w w':FW} {v:F7} {l:List (List Raw)} (h:FM w F v l) (hb:Below w.heap.size w w'):FM w' F v l:=h.on (FZ hb F)
theorem adC (w:FW) (F:FI) (vg vm:F7) (g:Gm) (m:List (List Raw)) (hg:AA w F vg g) (hsm:Small g) (hm:FM w F vm m) (hT:Bd w) (hlm:m.length<=100000) (hb:AX m) :
  Calls FY 61 #[vg,vm] w (Ret w λv _=>v = F6 F5 (fH g m)):=by
 have HG:=Ac hg;have HM:=Ac hm;have HS:=Ac hsm;have HT:=Ac hT;have hli:=hsm.Fh;have hact:bF g=0->∀ i∈g.Fh,i.actions<=10:=mQ;obtain⟨vn,vi,rfl,⟨A,c,rfl,hc,_⟩,⟨Ai,ci,rfl,hci,_⟩⟩:=hg;clear hm hsm hT;go_in;go_wp2_with fail
 refine ZJ ?_;intro W hW rx hB hz;clear hW hz;replace HG:=Ac (HG.out.on (FZ hB F));replace HM:=Ac (HM.out.below hB);replace HT:=Ac (HT.out.on hB);refine Zd ?_;intro x0 x1 x2;clear rx;go_wp2_with fail
 refine(akm W F _ g HG.out HS.out).mono ?_;rintro e w1 ⟨_,rfl,hb1,rfl⟩;rw[anh];replace HG:=Ac (HG.out.on (FZ hb1 F));replace HM:=Ac (HM.out.below hb1);replace HT:=Ac (HT.out.on hb1);replace x0:=ah x0 hb1;replace x1:=ah x1 hb1;replace x2:=ah x2 hb1;have hB1:=hB.trans (hb1.mono hB.size);clear hb1;have HE:=Ac (show fH g m=if bF g≠0 then bF g else kS (g.Fh.map Inf.actions) m from rfl);generalize bF g=fe at *;by_cases h0:fe=0
 ·have t1:(fe != 0)=false:=by rw[h0];rfl
  have HF:=Ac (HE.out.trans (L6 (by simpa using h0)));have ha:=hact h0;clear h0 hact;dsimp only;go_wp2_with fail
  refine(ahS w1 F _ _ g m HG.out HM.out HT.out hlm EN hb ha).mono ?_;exact zb9
 ·exact zbN
theorem acJ (w:FW) (F:FI) (vg vm:F7) (g:Gm) (m:List (List Raw)) (hg:AA w F vg g) (hm:FM w F vm m) (hlm:m.length<=100000) (hli:g.Fh.length<=100000) :
  Calls FY 59 #[vg,vm] w (Ret w λv _=>v = F6 F5 (if m.length≠g.Fh.length then 3 else 0)):=by
 obtain⟨vn,vi,rfl,⟨A,c,rfl,hc,_⟩,⟨Ai,ci,rfl,hci,_⟩⟩:=hg;obtain⟨Am,cm,rfl,hcm,_⟩:=hm;obtain⟨er,her⟩:∃ er:Int,er=if m.length≠g.Fh.length then 3 else 0:=⟨_,rfl⟩
 rw[<-her];by_cases hlen:m.length=g.Fh.length
 ·have d1:((m.length:Int) != (g.Fh.length:Int))=false:=aG;have HE:=Ac (her.trans (L6 (by simpa using hlen)));clear hlen her;exact zbg
 ·have d1:((m.length:Int) != (g.Fh.length:Int))=true:=aG;have HE:=Ac (her.trans (L8 hlen));clear hlen her;exact zbg
structure Layout (g:Gm) (up place:List Int):Prop where
 afa:up.length=g.Fg.length
 afb:place.length=g.Fg.length
 root:up[0]? = some (-1)
 kid:∀ i k c,Kid g.Fg i k c->up[c]? = some (i:Int)/\place[c]? = some (k:Int)
structure BF (w:FW) (F:FI) (bp:Nat) (g:Gm) (m:List (List Rat)) (up place:List Int) (vn vi vu vp vm:F7):Prop where
 inF:F bp
 row:Row w bp 147 [F6 F5 g.ay,vn,vi,vu,vp,vm]
 Fg:Bq w F vn g.Fg
 Fh:Bv w F vi g.Fh
 ups:Aj w F vu up
 places:Aj w F vp place
 mixed:Ak w F vm m
theorem BF.on {w w':FW} {g:Gm} {vn vi vu vp vm:F7} (h:BF w F bp g m up place vn vi vu vp vm) (hs:Same F w w'):BF w' F bp g m up place vn vi vu vp vm :=
 ⟨h.inF,h.row.of_block (hs.block bp h.inF h.row.lt),h.Fg.on hs,h.Fh.on hs,h.ups.on hs,h.places.on hs,h.mixed.on hs⟩
theorem BF.below {w w':FW} {g:Gm} {vn vi vu vp vm:F7} (h:BF w F bp g m up place vn vi vu vp vm) (hb:Below w.heap.size w w'):BF w' F bp g m up place vn vi vu vp vm:=h.on (FZ hb F)
theorem BF.old {w:FW} {g:Gm} {vn vi vu vp vm:F7} (h:BF w F bp g m up place vn vi vu vp vm):BF w (Old F w.heap.size) bp g m up place vn vi vu vp vm :=
 ⟨⟨h.inF,h.row.lt⟩,h.row,h.Fg.keep (λ_ hb hl=>⟨hb,hl⟩) (Gh _ _),h.Fh.keep (λ_ hb hl=>⟨hb,hl⟩) (Gh _ _),h.ups.keep (λ_ hb hl=>⟨hb,hl⟩) (Gh _ _),h.places.keep (λ_ hb hl=>⟨hb,hl⟩) (Gh _ _),FM.keep h.mixed (λ_ hb hl=>⟨hb,hl⟩) (Gh _ _)⟩
structure Counts (w:FW) (F:FI) (fid:FuncId) (caps:Array F7) (Fg:List Nd) (cnt:Nd->Bool):Prop where
 enters:∀ (args:Array F7) (w':FW),(callFunc fid args).run FY w' = .ok (.enter fid args) w'
 calls:∀ (W:FW) (n:Nd) (v:F7),n∈Fg->Bf W F v n->Below w.heap.size w W->Calls FY fid (#[v]++caps) W (Ret W λu _=>u = Gj (cnt n))
def bH (n:Nd):Bool:=n.kind != 3
def ownB (p:Int) (n:Nd):Bool:=n.kind==2&&n.aC==p
def jW (p:Int) (n:Nd):Bool:=n.kind != 3&&(n.kind != 2||n.aC != p)
theorem Bf.cells {w:FW} {v:F7} {n:Nd} (h:Bf w F v n):∃ A3 c3 A4 c4 A5 c5,v = .agg #[F6 F5 n.kind,F6 F5 n.aC,F6 F5 n.info,FQ A3 n.next.length c3,FQ A4 n.weights.length c4,FQ A5 n.pay.length c5]:=by
 obtain⟨v3,v4,v5,rfl,⟨A3,c3,rfl,_⟩,⟨A4,c4,rfl,_⟩,⟨A5,c5,rfl,_⟩⟩:=h;exact⟨A3,c3,A4,c4,A5,c5,rfl⟩
theorem uf (w:FW) (F:FI) (v:F7) (n:Nd) (hv:Bf w F v n):Calls FY 84 #[v] w (Ret w λu _=>u = Gj (bH n)):=by
 obtain⟨A3,c3,A4,c4,A5,c5,rfl⟩:=hv.cells;clear hv;obtain⟨b,hb⟩:=FH (bH n);rw[<-hb];have HB:=Ac hb;unfold bH at hb;cases b
 all_goals
  have t1:=hb.symm;clear hb;go_in;go_wp2
  go_ret;exact⟨_,rfl,(F9 _ _).alloc (FV _) _,rfl⟩
theorem ani (w:FW) (F:FI) (v:F7) (n:Nd) (pb:Nat) (p:Int) (hp:w.cell? ⟨pb,0,none⟩=some (F6 F5 p)) (hv:Bf w F v n):Calls FY 82 #[v,.pointer (some ⟨pb,0,none⟩)] w (Ret w λu _=>u = Gj (ownB p n)):=by
 obtain⟨A3,c3,A4,c4,A5,c5,rfl⟩:=hv.cells;clear hv;have hpl:=Gg w _ hp;simp only at hpl;have HB:=Ac (show ownB p n=(n.kind==2&&n.aC==p) from rfl);by_cases hk:n.kind=2
 ·have t1:(n.kind==2)=true:=by simp[hk]
  by_cases hq:n.aC=p
  ·have t2:(n.aC==p)=true:=by simp[hq]
   have HF:=Ac (show ownB p n=true by rw[HB.out,t1,t2]; rfl);clear hk hq;exact Zt
  ·have t2:(n.aC==p)=false:=by simpa using hq
   have HF:=Ac (show ownB p n=false by rw[HB.out,t1,t2]; rfl);clear hk hq;exact Zt
 ·have t1:(n.kind==2)=false:=by simpa using hk
  have HF:=Ac (show ownB p n=false by rw[HB.out,t1]; rfl);clear hk;exact Zt
theorem aia (w:FW) (F:FI) (v:F7) (n:Nd) (pb:Nat) (p:Int) (hp:w.cell? ⟨pb,0,none⟩=some (F6 F5 p)) (hv:Bf w F v n):Calls FY 83 #[v,.pointer (some ⟨pb,0,none⟩)] w (Ret w λu _=>u = Gj (jW p n)):=by
 have HV:=Ac hv;obtain⟨A3,c3,A4,c4,A5,c5,rfl⟩:=hv.cells;clear hv;have HB:=Ac (show jW p n=(bH n&&(n.kind != 2||n.aC != p)) from rfl);go_in;go_wp2_with fail
 obtain⟨W,hW,rx,hB,hz⟩:=aJ w 127 #[F6 F5 n.kind,F6 F5 n.aC,F6 F5 n.info,FQ A3 n.next.length c3,FQ A4 n.weights.length c4,FQ A5 n.pay.length c5];rw[<-hW];clear hW hz;replace HV:=Ac (HV.out.on (FZ hB F));replace hp:=ah hp hB;refine zcb ?_;intro x0 x1 x2 x3 x4 x5;clear rx;go_wp2_with fail
 refine(uf W F _ n HV.out).mono ?_;rintro e wn ⟨u,rfl,hb,rfl⟩;refine ZL ?_;clear x0 x1 x2;intro x0 x1 x2;replace x3:=ah x3 hb;replace x4:=ah x4 hb;replace x5:=ah x5 hb;replace hp:=ah hp hb;replace hB:=hB.trans (hb.mono hB.size);clear hb;cases hi:bH n
 ·have HF:=Ac (show jW p n=false by rw[HB.out,hi]; rfl);clear hi;exact zaM
 ·by_cases hk:n.kind=2
  ·have t1:(n.kind != 2)=false:=by simp[hk]
   by_cases hq:n.aC=p
   ·have t2:(n.aC != p)=false:=by simp[hq]
    have HF:=Ac (show jW p n=false by rw[HB.out,hi,t1,t2]; rfl);clear hk hq hi;exact zaM
   ·have t2:(n.aC != p)=true:=by simpa using hq
    have HF:=Ac (show jW p n=true by rw[HB.out,hi,t1,t2]; rfl);clear hk hq hi;exact zaM
  ·have t1:(n.kind != 2)=true:=by simpa using hk
   have HF:=Ac (show jW p n=true by rw[HB.out,hi,t1]; rfl);clear hk hi;exact zaM
theorem ajj:∀ {mr:List (List Raw)},(∀ l∈mr,∃ xs:List Rat,l=xs.map au)->∃ m:List (List Rat),mr=m.map (GK au)
 | [],_=>⟨[],rfl⟩
 | l :: mr,h=>by
  obtain⟨xs,hx⟩:=h l (I9);obtain⟨m,hm⟩:=ajj (mr:=mr) (λl hl=>h l (GI _ hl));exact⟨xs :: m,by rw[hx,hm]; rfl⟩
theorem kW {g:Gm} (h:fH g mr=0):bF g=0:=by
 unfold fH at h;by_cases h1:bF g=0
 ·exact h1
 ·rw[L8 h1] at h;exact h
theorem pW {g:Gm} (h:fH g mr=0):kS (g.Fh.map Inf.actions) mr=0:=by
 have h1:=kW h;unfold fH at h;rwa [L6 (by simpa using h1)] at h
theorem aac (h:nS a l=0):(l.length:Int)=a/\nY l=0/\jC (fO (l.map uJ)) 1=0:=by
 unfold nS at h;split at h
 ·omega
 rename_i h1
 split at h
 ·omega
 rename_i h2
 split at h
 ·omega
 rename_i h3
 exact⟨EN,EN,EN⟩
theorem uT {acts:List Int} (h:kS acts mr=0):mr.length=acts.length/\∀ (k:Nat) (a:Int) (l:List Raw),acts[k]? = some a->mr[k]? = some l->nS a l=0:=by
 unfold kS at h;split at h
 ·omega
 rename_i h1
 exact⟨EN,λk a l ha hl=>aaz h _ (FT (abM ha hl))⟩
theorem aad {g:Gm} (h:bF g=0):1<=g.ay/\g.ay<=4:=by
 unfold bF at h;split at h
 ·omega
 ·rename_i h1
  unfold jH at h1;omega
theorem ajk:∀ (l:List Int) (a:Int) (k:Nat),(∀ x∈l,1<=x/\x<=1000)->a+l.length<=l.foldl (· + ·) a/\l.foldl (· + ·) a<=a+1000*l.length
 | [],a,k,_=>by simp
 | x :: l,a,k,h=>by
  have h1:=h x (I9);have h2:=ajk l (a+x) k (λy hy=>h y (GI _ hy));rw[List.foldl_cons,List.length_cons];omega
theorem yV {l:List Int} (h:∀ x∈l,1<=x/\x<=1000):(l.length:Int)<=oq l/\oq l<=1000*l.length:=by
 have:=ajk l 0 0 h;unfold oq;omega
theorem uU {Fg:List Nd} (h:dA ay ni Fg=0) {n:Nd} (hn:n∈Fg) (hk:n.kind=1):n.weights.length=n.next.length/\1<=n.next.length/\n.next.length<=60/\∀ x∈n.weights,1<=x/\x<=1000:=by
 have h1:=jD h n hn;unfold aQ at h1;rw[L8 hk] at h1;unfold dw at h1;split at h1
 ·omega
 ·rename_i h2
  split at h1
  ·omega
  ·rename_i h3
   refine⟨EN,EN,EN,λx hx=>?_⟩;have h4:outside 1 1000 n.weights=false:=by simpa using h3
   unfold outside at h4;have:=List.any_eq_false.1 h4 x hx;simp at this;omega
theorem mV {Fg:List Nd} (h:dA ay ni Fg=0) {n:Nd} (hn:n∈Fg) (hk:n.kind=2):1<=n.next.length/\n.next.length<=10/\0<=n.aC/\n.aC < ay/\0<=n.info/\n.info < (ni:Int):=by
 have h1:=jD h n hn;unfold aQ at h1;rw[L6 EN,L8 hk] at h1;unfold fA at h1;split at h1
 ·omega
 ·rename_i h2
  split at h1
  ·omega
  ·exact⟨EN,EN,EN,EN,EN,EN⟩
theorem kinds {Fg:List Nd} (h:dA ay ni Fg=0) {n:Nd} (hn:n∈Fg):n.kind=1\/n.kind=2\/n.kind=3:=by
 have h1:=jD h n hn;unfold aQ at h1;split at h1
 ·exact .inl ‹_›
 ·split at h1
  ·exact .inr (.inl ‹_›)
  ·split at h1
   ·exact .inr (.inr ‹_›)
   ·omega
theorem uV {g:Gm} (h:bF g=0) {n:Nd} (hn:n∈g.Fg) (hk:n.kind=2):∃ inf,g.Fh[n.info.toNat]? = some inf/\inf.actions=n.next.length/\inf.aC=n.aC:=by
 obtain⟨h2,h5⟩:=jr h;have h6:=mV h2 hn hk;unfold kL at h5;split at h5
 ·omega
 rename_i ht
 obtain⟨inf,hi⟩:=FC (l:=g.Fh) (k:=n.info.toNat) EN;have e2:eH g.Fh n=false:=by
  cases hb:eH g.Fh n with
  | false=>rfl
  | true=>exact absurd (List.any_eq_true.2 ⟨n,hn,hb⟩) ht
 unfold eH at e2;rw[Mc hk,Bool.true_and,Bool.or_eq_false_iff,FU,hi] at e2;have e3:=of_decide_eq_false e2.1;have e4:=of_decide_eq_false e2.2;simp only[Ht] at e3 e4;exact⟨inf,hi,EN,EN⟩
theorem ajl {b:Int} (ha:1<=a/\a<=1000) (hb:1<=b/\b<=60000):rl ((a:Rat) / (b:Rat))<=4:=by
 have h1:rl (a:Rat)<=1:=by
  rw[ab5];have:(dig a.natAbs).length<=1:=aV (by unfold LB; omega);omega
 have h2:rl (b:Rat)<=1:=by
  rw[ab5];have:(dig b.natAbs).length<=1:=aV (by unfold LB; omega);omega
 have hb0:(b:Rat)≠0:=λe=>by
  have:b=0:=Rat.intCast_inj.1 e;omega
 rw[Rat.div_def];have h3:=kR (a:Rat) (b:Rat)⁻¹;rw[ahj hb0] at h3;omega
def Cm (mr:List (List Raw)):Prop:=∀ l∈mr,∀ r∈l,r.num.length<=4/\r.den.length<=4
theorem acK {g:Gm} (h:fH g mr=0) (hL:Cm mr):∃ m:List (List Rat),mr=m.map (GK au)/\Fit g m/\∀ l∈m,fO l=1/\∀ x∈l,dI x=false:=by
 have hf:=kW h;obtain⟨hlen,hrows⟩:=uT (pW h);have hrow:∀ l∈mr,∃ a:Int,nS a l=0:=by
  intro l hl;refine zb7 ?_;intro k hk;obtain⟨a,ha⟩:=FC (l:=g.Fh.map Inf.actions) (k:=k) (by have:=FD hk; omega);exact⟨a,hrows k a l ha hk⟩
 obtain⟨m,rfl⟩:=ajj (mr:=mr) (λl hl=>by
  obtain⟨a,ha⟩:=hrow l hl;obtain⟨xs,hx,_⟩:=yM (aac ha).2.1;exact⟨xs,hx⟩)
 obtain⟨hne,_⟩:=jr hf;refine⟨m,rfl,⟨iO hf,hne,aad hf,by simpa using hlen,λn hn hk=>?_⟩,λl hl=>?_⟩
 ·rcases kinds hne hn with k1 | k1 | k1
  ·obtain⟨c1,c2,c3,c4⟩:=uU hne hn k1;have hs:=yV c4;unfold dL;rw[L6 EN,FX];refine⟨c1,λx hx=>?_⟩;obtain⟨y,hy,rfl⟩:=List.mem_map.1 hx;exact ajl (c4 y hy) EN
  ·obtain⟨inf,hi,ha,_⟩:=uV hf hn k1;obtain⟨l,hl⟩:=FC (l:=m) (k:=n.info.toNat) (by have:=FD hi; simp at hlen; omega);have hr:=hrows n.info.toNat inf.actions (l.map au) (by rw[Gi,hi]; rfl) (by rw[Gi,hl]; rfl);have hll:=(aac hr).1;rw[FX] at hll;unfold dL;rw[L8 k1,FU,hl,Ht];refine⟨EN,λx hx=>?_⟩;have:=hL (l.map au) (IZ (FT hl)) (au x) (IZ hx);exact Nat.max_le.2 this
  ·exact absurd k1 hk
 ·obtain⟨a,ha⟩:=hrow (l.map au) (IZ hl);obtain⟨_,h2,h3⟩:=aac ha;rw[acj] at h3;refine⟨(sW _ _).1 h3,λx hx=>?_⟩;have h4:=aaz h2 (fC (au x)) (IZ (IZ hx));obtain⟨y,hy,_,hn⟩:=adW h4;rw[adU hy];exact hn
open List renaming getElem_toArray → lq1, getElem_cons_zero → lq2, getElem_cons_succ → lq3, setIfInBounds_toArray → lq4, set_cons_zero → lq5, set_cons_succ → lq6
theorem afc (w:FW) (x tot:Int) (tb:Nat) (hx1:-1000000000000<=x) (hx2:x<=1000000000000) (ht1:-1000000000000<=tot) (ht2:tot<=1000000000000) (ht0:tot≠0) (hc:w.cell? ⟨tb,0,none⟩=some (F6 F5 tot)) :
  Calls FY 141 #[F6 F5 x,.pointer (some ⟨tb,0,none⟩)] w (Ret w λu w'=>NmV w' (λb=>w.heap.size<=b) u ((x:Rat) / (tot:Rat))):=by
 obtain⟨q,hq⟩:∃ q:Rat,q=(x:Rat) / (tot:Rat):=⟨_,rfl⟩;have HC:=Ac (λW=>aj6 W x tot hx1 hx2 ht1 ht2 ht0);rw[<-hq] at HC ⊢;clear hq;have htl:=Gg w _ hc;simp only at htl;go_in;go_wp2_with fail
 obtain⟨W,hW,rz,hB,hz⟩:=aJ w 114 #[Gj false,FQ none 0 0,FQ none 0 0];rw[<-hW];clear hW;have hzz:=hB.size;replace hc:=ah hc hB;go_wp2_with fail
 refine(HC.out W).mono ?_;rintro e wn ⟨u,rfl,hb,hu⟩;have HU:=Ac (hu.mono (G:=λb=>w.heap.size+1<=b) (λb hb _=>by omega));obtain⟨Am,cm,Bm,dm,rfl,hn,hd⟩:=hu.open;have hB2:=hB.trans (hb.mono hzz);replace rz:=rz.below hb rz.lt;clear hu hn hd hb hc;dsimp only;refine Zk ?_;intro q0 y0 q1 y1 q2 y2;go_wp2
 obtain⟨Wz,hWz,hrz,hwz,hkz⟩:=bG rz (Gj (aB q).neg) (FQ Am (aB q).num.length cm) (FQ Bm (aB q).den.length dm);refine Zh ?_;clear hWz q0 q1 q2 y0 y1 y2;intro t0 t1 t2;refine bodyPost_ret (v:=.agg #[Gj (aB q).neg,FQ Am (aB q).num.length cm,FQ Bm (aB q).den.length dm]) (by simp[results,Tryz.results141,go_sem,t0,t1,t2]) rfl ?_;exact⟨_,rfl,hwz _ _ (FV _) hB2,HU.out.keep (λb hb _=>by omega) (hkz _ EN)⟩
theorem aib {n:Nd} (hk:n.kind=2):dL m n=m.getD n.info.toNat []:=by unfold dL; rw[L8 hk]
theorem afd {n:Nd} (hk:n.kind≠2):dL m n=n.weights.map λx:Int=>(x:Rat) / ((oq n.weights:Int):Rat):=by unfold dL; rw[L6 hk]
def CO (F:FI) (B:Nat) (m:List (List Rat)) (n:Nd) (u:F7) (w':FW):Prop:=(∃ b c,u = FQ (some ⟨b,0,none⟩) (dL m n).length c)/\Bz w' (Ext F B) u (dL m n)
theorem afe (w:FW) (F:FI) (bp:Nat) (g:Gm) (m:List (List Rat)) (up place:List Int) (vn vi vu vp vm v:F7) (n:Nd) (hp:BF w F bp g m up place vn vi vu vp vm) (hv:Bf w F v n) (hf:Fit g m) (hn:n∈g.Fg) (hk:n.kind=2) (hml:m.length<=100000) :
  Calls FY 107 #[.pointer (some ⟨bp,0,none⟩),v] w (Ret w (CO F w.heap.size m n)):=by
 obtain⟨A3,c3,A4,c4,A5,c5,rfl⟩:=hv.cells;clear hv;have hmv:=mV hf.Fg hn hk;have hch:=hf.chan n hn EN;obtain⟨ik,hik⟩:∃ ik:Nat,n.info=(ik:Int):=⟨n.info.toNat,EN⟩;have hil:ik < m.length:=by rw[hf.rows];omega
 obtain⟨l,hl⟩:=FC hil;have hcl:dL m n=l:=by rw[aib hk,hik,Int.toNat_natCast,FU,hl];rfl
 unfold CO;rw[hcl] at hch ⊢;have HRL:=Ac hch.2;have hnl:=hch.1;have hl10:l.length<=10:=EN;have t1:(n.kind==2)=true:=by simp[hk]
 have hmx:=hp.mixed;have hmc:=hp.row.cell (i:=5) rfl;obtain⟨Am,cm,rfl,hcm,hM⟩:=hmx;rw[FX] at hcm hM;obtain⟨bm,om,rfl,hFm,hbm,hx⟩:=hM EN;obtain⟨ur,eu,hrow⟩:=hx ik (l.map au) (by rw[Gi,hl]; rfl);rw[Gp] at eu;rw[FX] at hmc;have HRW:=Ac (show BD w F ur l from hrow);obtain⟨Ar,cr,rfl,hcr,_⟩:=hrow;rw[FX] at eu HRW hcr;rw[hik];clear hx hM hmv hch hl hcl hik hk hf hn hp hnl;go_in;go_wp2_with fail
 obtain⟨W,hW,rx,hB,hz⟩:=aJ w 127 #[F6 F5 n.kind,F6 F5 n.aC,F6 F5 (ik:Int),FQ A3 n.next.length c3,FQ A4 n.weights.length c4,FQ A5 n.pay.length c5];rw[<-hW];clear hW;have hzz:=hB.size;replace hmc:=ah hmc hB;replace eu:=ah eu hB;replace HRW:=Ac (HRW.out.below hB);have x0:=rx.cell (i:=0) rfl;have x2:=rx.cell (i:=2) rfl;clear rx hz;go_wp2_with fail
 refine wp_region_held_drew (S:=λw'=>w'.cell? ⟨bp,5,none⟩=some (FQ (some ⟨bm,om,none⟩) m.length cm)/\w'.cell? ⟨bm,om+ik,none⟩=some (FQ Ar l.length cr)/\w'.cell? ⟨w.heap.size,2,none⟩=some (F6 F5 (ik:Int))) ak ⟨hmc,eu,x2⟩ (λhHeld=>?_);refine zcC ?_;intro hb;replace hmc:=ah hmc hb;replace eu:=ah eu hb;replace x2:=ah x2 hb;replace HRW:=Ac (HRW.out.below hb);replace hzz:=Gf hzz hb.size;replace hB:=hB.trans (hb.mono hB.size);clear hb;generalize W.drew=wn at *;refine tkm [0,1,2,3,4,5,6,7] ?_;refine tk2 8 ak rfl λK hK=>?_
 go_simp;refine(agl wn F _ l HRW.out EN (λx hx=>by have:=HRL.out x hx; omega)).mono ?_;rintro e wn ⟨u,rfl,hb,hu1,hu2⟩;obtain⟨bb,rfl⟩:∃ bb,u = FQ (some ⟨bb,0,none⟩) l.length l.length:=⟨_,hu1⟩;clear hu1;have HU:=Ac (FK.keep (G:=Ext F w.heap.size) hu2 (λb hb _=>hb.elim .inl λh=>.inr EN) (Gh _ _));clear hu2;replace hmc:=ah hmc hb;replace eu:=ah eu hb;replace x2:=ah x2 hb;replace HRW:=Ac (HRW.out.below hb);replace hzz:=Gf hzz hb.size;refine YW ?_;clear hB hb;intro hB;clear hHeld;refine hK.out _ _ ⟨hmc,eu,x2⟩ (λhHeld=>?_);clear hK K;refine Zb ?_;refine tkm [9] ?_;refine Yf ?_;clear hHeld;refine ZR ?_;go_wp2
 go_ret;exact⟨_,rfl,hB,⟨_,_,rfl⟩,HU.out⟩
theorem acL (w:FW) (F:FI) (bp:Nat) (g:Gm) (m:List (List Rat)) (v:F7) (n:Nd) (hv:Bf w F v n) (hne:dA g.ay g.Fh.length g.Fg=0) (hn:n∈g.Fg) (hk:n.kind=1) :
  Calls FY 107 #[.pointer (some ⟨bp,0,none⟩),v] w (Ret w (CO F w.heap.size m n)):=by
 obtain⟨c1,c2,c3',c4'⟩:=uU hne hn hk;have hsr:=yV c4';unfold CO;rw[afd EN,FX];have hwl:n.weights.length<=60:=EN;have hwl1:1<=n.weights.length:=EN;have HW4:=Ac c4';have hpart:∀ k,k<=n.weights.length->0<=oq (n.weights.take k)/\oq (n.weights.take k)<=1000*k:=λk hk=>by
  have h1:=yV (l:=n.weights.take k) (λx hx=>c4' x (List.mem_of_mem_take hx));have h2:(n.weights.take k).length<=k:=aG;omega
 have HPT:=Ac hpart;obtain⟨tot,htot⟩:=FH (oq n.weights);rw[<-htot] at hsr ⊢;have htb1:1<=tot:=EN;have htb2:tot<=60000:=EN;have HT:=Ac htot;have t1:(n.kind==2)=false:=aG;clear hpart c1 c2 c3' c4' hsr htot hk hne hn;have HWV:=Ac (show ∃ v3 v4 v5,v = .agg #[F6 F5 n.kind,F6 F5 n.aC,F6 F5 n.info,v3,v4,v5]/\Aj w F v4 n.weights from by obtain⟨v3,v4,v5,h,_,h4,_⟩:=hv; exact⟨v3,v4,v5,h,h4⟩);obtain⟨v3,v4,v5,rfl,⟨A3,c3,rfl,_⟩,h4,⟨A5,c5,rfl,_⟩⟩:=hv;have H4:=Ac h4;obtain⟨A4,c4,rfl,hc4,hx4⟩:=h4;have HX:=Ac hx4;clear hx4 HWV;go_in;go_wp2_with fail
 obtain⟨W,hW,rx,rt,hB,hz⟩:=alloc2 w 127 #[F6 F5 n.kind,F6 F5 n.aC,F6 F5 n.info,FQ A3 n.next.length c3,FQ A4 n.weights.length c4,FQ A5 n.pay.length c5] 3 #[F6 F5 0];rw[<-hW];clear hW;have hzz:=hB.size;have x4:=rx.cell (i:=4) rfl;have hz:w.heap.size+2<=W.heap.size:=hz;go_loopw [23] (λi wr=>∃ k:Nat,k<=n.weights.length/\i = F6 F5 (k:Int)/\Row wr w.heap.size 127 [F6 F5 n.kind,F6 F5 n.aC,F6 F5 n.info,FQ A3 n.next.length c3,FQ A4 n.weights.length c4,FQ A5 n.pay.length c5]/\Row wr (w.heap.size+1) 3 [F6 F5 (oq (n.weights.take k))]/\Below w.heap.size w wr) (λi _=>n.weights.length - (intOf i).toNat)
 case atStart=>exact⟨0,EN,rfl,rx,rt,hB⟩
 case round =>
  clear rx rt hB hzz hz x4;obtain⟨k,hk,rfl,rx,rt,hB⟩:=hrel;obtain⟨sk,hsk⟩:=FH (oq (n.weights.take k));have hpt:=HPT.out k hk;rw[<-hsk] at rt hpt;have HSK:=Ac hsk;clear hsk;by_cases hlt:k < n.weights.length
  ·obtain⟨b,o,rfl,hF,hb,hx⟩:=HX.out EN;refine zaQ ?_;intro x hx' ex;unfold jP at ex;rw[Gp] at ex;replace ex:=ah ex (hB.mono (FV _));have hxb:=HW4.out x (FT hx');have HXX:=Ac hx';have y0:=rt.cell (i:=0) rfl;have y1:=rt.frozen 0;clear hx hx';go_wp2
   have rt2:=rt.set 0 (F6 F5 (sk+x));have rx2:=rx.other (a:=⟨w.heap.size+1,0,none⟩) aF (F6 F5 (sk+x));have hB2:=hB.setCell (p:=⟨w.heap.size+1,0,none⟩) aF (F6 F5 (sk+x));go_roundw
   case rel=>exact⟨k+1,EN,by go_num,rx2,by rw[FP HXX.out,adX,<-HSK.out]; exact rt2,hB2⟩
   case measure=>simp[intOf]; omega
  ·have hst:sk=tot:=by rw[HSK.out,HT.out,Gl EN]
   subst hst;have x4:=rx.cell (i:=4) rfl;have tc:=rt.cell (i:=0) rfl;have hNF:EC wr 141 #[.pointer (some ⟨w.heap.size+1,0,none⟩)] n.weights (λx=>(x:Rat) / (sk:Rat)) :=
    ⟨enters' Tryz.func141 ak ak,λW' x hx hb=>afc W' x sk (w.heap.size+1) (by have:=HW4.out x hx; omega) (by have:=HW4.out x hx; omega) EN EN EN (ah tc hb)⟩
   have H4':=Ac (H4.out.on (FZ hB F));have HN:=Ac hNF;clear hNF;go_wp2_with fail
   refine(abk wr F _ n.weights _ _ _ H4'.out EN HN.out).mono ?_;rintro e wn ⟨u,rfl,hb,hu1,hu2⟩;obtain⟨bb,rfl⟩:∃ bb,u = FQ (some ⟨bb,0,none⟩) n.weights.length n.weights.length:=⟨_,hu1⟩;have hzz:=hB.size;have HU:=Ac (FK.keep (G:=Ext F w.heap.size) hu2 (λb hb _=>.inr EN) (Gh _ _));have hB2:=hB.trans (hb.mono hB.size);clear hu1 hu2 hb tc x4 HN;dsimp only;go_wp2
   go_ret;exact⟨_,rfl,hB2,⟨_,_,rfl⟩,HU.out⟩
theorem abm (w:FW) (F:FI) (bp:Nat) (g:Gm) (m:List (List Rat)) (up place:List Int) (vn vi vu vp vm v:F7) (n:Nd) (hp:BF w F bp g m up place vn vi vu vp vm) (hv:Bf w F v n) (hf:Fit g m) (hn:n∈g.Fg) (hk:n.kind≠3) (hml:m.length<=100000) :
  Calls FY 107 #[.pointer (some ⟨bp,0,none⟩),v] w (Ret w (CO F w.heap.size m n)):=by
 rcases kinds hf.Fg hn with k1 | k1 | k1
 ·exact acL w F bp g m v n hv hf.Fg hn k1
 ·exact afe w F bp g m up place vn vi vu vp vm v n hp hv hf hn k1 hml
 ·exact absurd k1 hk
structure Laid (g:Gm) (U P:List Int) (i k:Nat):Prop where
 afa:U.length=g.Fg.length
 afb:P.length=g.Fg.length
 root:U[0]? = some (-1)
 kid:∀ i' k' c,Kid g.Fg i' k' c->(i' < i\/(i'=i/\k' < k))->U[c]? = some (i':Int)/\P[c]? = some (k':Int)
theorem Laid.start {g:Gm} (h0:0 < g.Fg.length):Laid g ((F8 g.Fg.length 0).set 0 (-1)) (F8 g.Fg.length 0) 0 0 :=
 ⟨aF,aF,by simp[h0],λi' k' c _ h=>by omega⟩
theorem Laid.step {g:Gm} (hg:Good g) {c:Nat} (h:Laid g U P i k) (hk:Kid g.Fg i k c):Laid g (U.set c (i:Int)) (P.set c (k:Int)) i (k+1):=by
 have hl:=hg.aay hk;refine⟨by rw[He]; exact h.afa,by rw[He]; exact h.afb,by rw[Ia EN]; exact h.root,λi' k' c' hk' hlt=>?_⟩;by_cases e:c'=c
 ·subst e;obtain⟨rfl,rfl⟩:=hg.aeO hk' hk;rw[Ib (by rw[h.afa]; omega),Ib (by rw[h.afb]; omega)];exact⟨rfl,rfl⟩
 ·rw[Ia (λh=>e h.symm),Ia (λh=>e h.symm)];refine h.kid i' k' c' hk' ?_;rcases hlt with h1 | ⟨h1,h2⟩
  ·exact .inl h1
  ·by_cases e2:k'=k
   ·subst e2;subst h1;obtain⟨n,hn,hc⟩:=hk;obtain⟨n',hn',hc'⟩:=hk';rw[hn] at hn';cases hn';rw[hc] at hc';injection hc' with e3
    exact absurd (Int.ofNat_inj.1 e3).symm e
   ·exact .inr ⟨h1,EN⟩
theorem Laid.next {g:Gm} {n:Nd} (h:Laid g U P i k) (hn:g.Fg[i]? = some n) (hk:n.next.length<=k):Laid g U P (i+1) 0 :=
 ⟨h.afa,h.afb,h.root,λi' k' c hk' hlt=>h.kid i' k' c hk' (by
  rcases hlt with h1 | ⟨_,h2⟩
  ·by_cases e:i'=i
   ·subst e;obtain⟨n',hn',hc⟩:=hk';rw[hn] at hn'; cases hn';have:=FD hc;exact .inr ⟨rfl,EN⟩
   ·exact .inl EN
  ·omega)⟩
theorem Laid.done {g:Gm} (h:Laid g U P i k) (hi:g.Fg.length<=i):Layout g U P :=
 ⟨h.afa,h.afb,h.root,λi' k' c hk'=>h.kid i' k' c hk' (.inl (by
  obtain⟨n,hn,_⟩:=hk';have:=FD hn;omega))⟩
structure VSt (w:FW) (g:Gm) (A:Option Addr) (c:Nat) (Ai:Option Addr) (ci:Nat) (vm:F7) (bp bu bl:Nat) (U P:List Int) (wr:FW):Prop where
 box:Row wr w.heap.size 27 [F6 F5 g.ay,FQ A g.Fg.length c,FQ Ai g.Fh.length ci]
 play:Row wr bp 147 [F6 F5 g.ay,FQ A g.Fg.length c,FQ Ai g.Fh.length ci,FQ (some ⟨bu,0,none⟩) g.Fg.length g.Fg.length,FQ (some ⟨bl,0,none⟩) g.Fg.length g.Fg.length,vm]
 ru:Row wr bu 3 (iZ U)
 rl:Row wr bl 3 (iZ P)
 bel:Below w.heap.size w wr
structure VAp (B bp bu bl:Nat):Prop where
 p:B < bp
 u:B < bu
 l:B < bl
 pu:bp≠bu
 pl:bp≠bl
 ul:bu≠bl
section
variable {w:FW} {g:Gm} {A:Option Addr} {c:Nat} {Ai:Option Addr} {ci:Nat} {vm:F7} {bp bu bl:Nat} {U P:List Int} {wr wr':FW}
theorem VSt.below (h:VSt w g A c Ai ci vm bp bu bl U P wr) (k:Below wr.heap.size wr wr'):VSt w g A c Ai ci vm bp bu bl U P wr' :=
 ⟨h.box.below k h.box.lt,h.play.below k h.play.lt,h.ru.below k h.ru.lt,h.rl.below k h.rl.lt,h.bel.trans (k.mono h.bel.size)⟩
theorem VSt.drew (h:VSt w g A c Ai ci vm bp bu bl U P wr):VSt w g A c Ai ci vm bp bu bl U P wr.drew:=⟨h.box,h.play,h.ru,h.rl,h.bel.drew⟩
theorem VSt.setU (h:VSt w g A c Ai ci vm bp bu bl U P wr) (ap:VAp w.heap.size bp bu bl) (i:Nat) (x:Int):VSt w g A c Ai ci vm bp bu bl (U.set i x) P (wr.setCell ⟨bu,i,none⟩ (F6 F5 x)) :=
 ⟨h.box.other (by have:=ap.u; simp; omega) _,h.play.other ap.pu _,by simpa [iZ,Jb] using h.ru.set i (F6 F5 x),h.rl.other ap.ul.symm _,h.bel.setCell (by have:=ap.u; simp; omega) _⟩
theorem VSt.setP (h:VSt w g A c Ai ci vm bp bu bl U P wr) (ap:VAp w.heap.size bp bu bl) (i:Nat) (x:Int):VSt w g A c Ai ci vm bp bu bl U (P.set i x) (wr.setCell ⟨bl,i,none⟩ (F6 F5 x)) :=
 ⟨h.box.other (by have:=ap.l; simp; omega) _,h.play.other ap.pl _,h.ru.other ap.ul _,by simpa [iZ,Jb] using h.rl.set i (F6 F5 x),h.bel.setCell (by have:=ap.l; simp; omega) _⟩
end
theorem ug (w:FW) (F:FI) (vg vm:F7) (g:Gm) (m:List (List Rat)) (hg:AA w F vg g) (hsm:Small g) (hm:Ak w F vm m) (hT:Bd w) (hlm:m.length<=100000) (hb:AX (m.map (GK au))) (h0:fH g (m.map (GK au))=0) :
  Calls FY 49 #[vg,vm] w (Ret w λu w'=>∃ bp up place vn vi vu vp,u = .tuple #[.pointer (some ⟨bp,0,none⟩),F6 F5 0]/\BF w' (Ext F w.heap.size) bp g m up place vn vi vu vp vm/\Layout g up place):=by
 refine zbj ?_;intro HG HM HS HT HBB HE0;have HGD:=Ac (iO (kW h0));have hml:(m.map (GK au)).length<=100000:=by rw[FX];exact hlm
 have hpos:=HGD.out.pos;have hn:=hsm.Fg;obtain⟨vn,vi,rfl,⟨A,c,rfl,hc,hN⟩,⟨Ai,ci,rfl,hci,hI⟩⟩:=hg;have HN:=Ac hN;obtain⟨Am,cm,rfl,hcm,_⟩:=hm;clear hN hI hsm hT hb h0;rw[FX] at hcm HM;rw[FX];obtain⟨b,o,rfl,hbF,hbl,hcell⟩:=HN.out hpos;have HC:=Ac hcell;clear hcell;go_in;go_wp2_with fail
 obtain⟨W,hW,rx,hB,hz⟩:=aJ w 27 #[F6 F5 g.ay,FQ (some ⟨b,o,none⟩) g.Fg.length c,FQ Ai g.Fh.length ci];rw[<-hW];clear hW hz;have HG':=Ac (HG.out.on (FZ hB F));have HM':=Ac (FM.below HM.out hB);replace HT:=Ac (HT.out.on hB);refine Zd ?_;intro x0 x1 x2;go_wp2_with fail
 refine(adC W F _ _ g _ HG'.out HS.out HM'.out HT.out hml HBB.out).mono ?_;rintro e w1 ⟨_,rfl,hb1,rfl⟩;rw[HE0.out];have hbx:=rx.below hb1 rx.lt;have hB1:=hB.trans (hb1.mono hB.size);clear rx hB hb1 x0 x1 x2 HG' HM' HT;dsimp only;have x1:=hbx.cell (i:=1) rfl;go_upto_region 5 with(fail)
 go_cut [8] from 22 to 31 (λv8 wx=>∃ bp bu bl,v8 = .pointer (some ⟨bp,0,none⟩)/\VSt w g (some ⟨b,o,none⟩) c Ai ci (FQ Am m.length cm) bp bu bl (F8 g.Fg.length 0) (F8 g.Fg.length 0) wx/\VAp w.heap.size bp bu bl)
 case first =>
  clear x1;obtain⟨w0,hw0⟩:=FH w1.drew;refine aW (λw'=>w'.cell? ⟨w.heap.size,0,none⟩=some (F6 F5 g.ay)/\w'.cell? ⟨w.heap.size,1,none⟩=some (FQ (some ⟨b,o,none⟩) g.Fg.length c)/\w'.cell? ⟨w.heap.size,2,none⟩=some (FQ Ai g.Fh.length ci)) 7 3 ak rfl ak ?_;have hHeld:(λw':FW=>w'.cell? ⟨w.heap.size,0,none⟩=some (F6 F5 g.ay)/\w'.cell? ⟨w.heap.size,1,none⟩=some (FQ (some ⟨b,o,none⟩) g.Fg.length c)/\w'.cell? ⟨w.heap.size,2,none⟩=some (FQ Ai g.Fh.length ci)) w1.drew:=⟨hbx.cell rfl,hbx.cell rfl,hbx.cell rfl⟩;refine Zv ?_;refine tkm [0,1,3,6] ?_;have hbx0:Row w0 _ _ _:=hw0▸hbx.drew;have hB0:Below w.heap.size w w0:=hw0▸hB1.drew;rw[<-hw0] at hHeld ⊢;clear hw0 hbx hB1;refine wpAnyH_ready (rs:=[2,4]) (by decide +kernel) aF ?_;refine(AllReadyH.cons (o:=_) rfl (λK hK=>?_) (AllReadyH.cons (o:=_) rfl (λK hK=>?_) AllReadyH.nil))
  ·refine ifT rfl ?_;refine ZW ?_;intro w1 hb hz alZ;clear hz;have g2:=hbx0.lt;have sz1:=hb.size;have jh:=hbx0.below hb hbx0.lt;have hB1:=hB0.trans (hb.mono hB0.size);clear hb;refine hK.out _ _ ⟨jh.cell rfl,jh.cell rfl,jh.cell rfl⟩ (λhHeld=>?_);clear hK K;refine Zb ?_;refine wpAnyH_ready (rs:=[4]) (by decide +kernel) aF ?_;refine zar ?_;intro K hK
   ·refine ifT rfl ?_;refine ZW ?_;intro w2 hb hz agE;clear hz;have g4:=jh.lt;have l2_4:=alZ.lt;have agF:=alZ.below hb alZ.lt;have sz2:=hb.size;have hbx2:=jh.below hb jh.lt;have hB2:=hB1.trans (hb.mono hB1.size);clear hb;refine hK.out _ _ ⟨hbx2.cell rfl,hbx2.cell rfl,hbx2.cell rfl⟩ (λhHeld=>?_);clear hK K;refine Zb ?_;refine tkm [5] ?_;refine Zx ?_;clear hHeld;go_wp2_with fail
    refine zaf ?_;go_wp2_with fail
    obtain⟨W,hW,rp,hbw,hzw⟩:=aJ w2 147 #[F6 F5 g.ay,FQ (some ⟨b,o,none⟩) g.Fg.length c,FQ Ai g.Fh.length ci,FQ (some ⟨w0.heap.size,0,none⟩) g.Fg.length g.Fg.length,FQ (some ⟨w1.heap.size,0,none⟩) g.Fg.length g.Fg.length,FQ Am m.length cm];rw[<-hW];clear hW hzw;have q2:=agF.lt;have q4:=agE.lt;have qb:=hbx2.lt;refine zaf ?_;go_wp2_with fail
    refine ZR ?_;go_wp2_with fail
    go_meet
    exact⟨w2.heap.size,w0.heap.size,w1.heap.size,rfl,⟨hbx2.below hbw qb,rp,by simpa [iZ] using agF.below hbw q2,by simpa [iZ] using agE.below hbw q4,hB2.trans (hbw.mono hB2.size)⟩,⟨EN,EN,EN,EN,EN,EN⟩⟩
  ·refine ifT rfl ?_;refine ZW ?_;intro w1 hb hz al2;clear hz;have g4:=hbx0.lt;have sz1:=hb.size;have jh:=hbx0.below hb hbx0.lt;have hB1:=hB0.trans (hb.mono hB0.size);clear hb;refine hK.out _ _ ⟨jh.cell rfl,jh.cell rfl,jh.cell rfl⟩ (λhHeld=>?_);clear hK K;refine Zb ?_;refine wpAnyH_ready (rs:=[2]) (by decide +kernel) aF ?_;refine zar ?_;intro K hK
   ·refine ifT rfl ?_;refine ZW ?_;intro w2 hb hz agF;clear hz;have g2:=jh.lt;have l4_2:=al2.lt;have agE:=al2.below hb al2.lt;have sz2:=hb.size;have hbx2:=jh.below hb jh.lt;have hB2:=hB1.trans (hb.mono hB1.size);clear hb;refine hK.out _ _ ⟨hbx2.cell rfl,hbx2.cell rfl,hbx2.cell rfl⟩ (λhHeld=>?_);clear hK K;refine Zb ?_;refine tkm [5] ?_;refine Zx ?_;clear hHeld;go_wp2_with fail
    refine zaf ?_;go_wp2_with fail
    obtain⟨W,hW,rp,hbw,hzw⟩:=aJ w2 147 #[F6 F5 g.ay,FQ (some ⟨b,o,none⟩) g.Fg.length c,FQ Ai g.Fh.length ci,FQ (some ⟨w1.heap.size,0,none⟩) g.Fg.length g.Fg.length,FQ (some ⟨w0.heap.size,0,none⟩) g.Fg.length g.Fg.length,FQ Am m.length cm];rw[<-hW];clear hW hzw;have q2:=agF.lt;have q4:=agE.lt;have qb:=hbx2.lt;refine zaf ?_;go_wp2_with fail
    refine ZR ?_;go_wp2_with fail
    go_meet
    exact⟨w2.heap.size,w1.heap.size,w0.heap.size,rfl,⟨hbx2.below hbw qb,rp,by simpa [iZ] using agF.below hbw q2,by simpa [iZ] using agE.below hbw q4,hB2.trans (hbw.mono hB2.size)⟩,⟨EN,EN,EN,EN,EN,EN⟩⟩
 case rest =>
  obtain⟨bp,bu,bl,rfl,hst,hap⟩:=hcut;clear hbx hB1 x1;have y3:=hst.play.cell (i:=3) rfl;have eu:=hst.ru.cell (i:=0) (v:=F6 F5 0) (by simp[iZ,hpos]);have fu:=hst.ru.frozen 0;have x1:=hst.box.cell (i:=1) rfl;have zu:w.heap.size≠bu:=by have:=hap.u;omega
  have HST:=Ac hst;clear hst;have HLD:=Ac (Laid.start (g:=g) hpos);go_wp2
  go_loopw [40] (λi wr=>∃ (k:Nat) (U P:List Int),k<=g.Fg.length/\i = F6 F5 (k:Int)/\Laid g U P k 0/\VSt w g (some ⟨b,o,none⟩) c Ai ci (FQ Am m.length cm) bp bu bl U P wr) (λi _=>g.Fg.length - (intOf i).toNat)
  case atStart=>exact⟨0,_,_,EN,rfl,HLD.out,HST.out.setU hap 0 (-1)⟩
  case round =>
   clear y3 eu fu x1 HST HLD;obtain⟨k,U,P,hk,rfl,hld,hst⟩:=hrel;have HST:=Ac hst;have HLD:=Ac hld;clear hst hld;by_cases hlt:k < g.Fg.length
   ·obtain⟨n,hn'⟩:=FC (l:=g.Fg) (k:=k) hlt;have hne:=HC.out k n hn';have n0:=hne.c0;have n1:=hne.c1;have n2:=hne.c2;obtain⟨v3,n3,A3,c3,rfl,hc3,i3⟩:=hne.c3;obtain⟨v4,n4,A4,c4,rfl,_,_⟩:=hne.c4;obtain⟨v5,n5,A5,c5,rfl,_,_⟩:=hne.c5;have hl3:=HS.out.next n (FT hn');have HN3:=Ac i3;clear i3 hne;have HX:=Ac hn';clear hn';have hbel:=HST.out.bel;replace n0:=ah n0 hbel;replace n1:=ah n1 hbel;replace n2:=ah n2 hbel;replace n3:=ah n3 hbel;replace n4:=ah n4 hbel;replace n5:=ah n5 hbel;clear hbel;go_wp2_with fail
    obtain⟨W2,hW2,rn,hB2,hzz⟩:=aJ wr 127 #[F6 F5 n.kind,F6 F5 n.aC,F6 F5 n.info,FQ A3 n.next.length c3,FQ A4 n.weights.length c4,FQ A5 n.pay.length c5];rw[<-hW2];replace HST:=Ac (HST.out.below hB2);have m3:=rn.cell (i:=3) rfl;clear hW2 hzz hB2 rn n0 n1 n2 n3 n4 n5;go_loopw [48] (λi wi=>∃ (j:Nat) (U P:List Int),j<=n.next.length/\i = F6 F5 (j:Int)/\Laid g U P k j/\VSt w g (some ⟨b,o,none⟩) c Ai ci (FQ Am m.length cm) bp bu bl U P wi) (λi _=>n.next.length - (intOf i).toNat)
    case atStart=>exact⟨0,U,P,EN,rfl,HLD.out,HST.out⟩
    case round =>
     clear m3 HST HLD U P;obtain⟨j,U,P,hj,rfl,hld,hst⟩:=hrel;have HST:=Ac hst;have HLD:=Ac hld;clear hst hld;by_cases hjt:j < n.next.length
     ·obtain⟨ch,hch⟩:=FC hjt;have hkk:=HGD.out.span.kids k n (Nat.zero_le _) hlt HX.out ch (FT hch);obtain⟨cn,rfl⟩:∃ cn:Nat,ch=(cn:Int):=⟨ch.toNat,EN⟩;have hcl:cn < g.Fg.length:=EN;obtain⟨b3,o3,rfl,hb3,hb3B,hx3⟩:=HN3.out EN;have ec:=hx3 j _ hch;unfold jP at ec;rw[Gp] at ec;replace ec:=ah ec HST.out.bel;have HKD:=Ac (show Kid g.Fg k j cn from⟨n,HX.out,hch⟩);have hul:=HLD.out.afa;have hpl:=HLD.out.afb;obtain⟨yu,hyu⟩:=FC (l:=U) (k:=cn) EN;obtain⟨yp,hyp⟩:=FC (l:=P) (k:=cn) EN;have eu:=HST.out.ru.cell (i:=cn) (v:=F6 F5 yu) (by simp[iZ,hyu]);have ep:=HST.out.rl.cell (i:=cn) (v:=F6 F5 yp) (by simp[iZ,hyp]);have fu:=HST.out.ru.frozen cn;have fp:=HST.out.rl.frozen cn;have y3:=HST.out.play.cell (i:=3) rfl;have y4:=HST.out.play.cell (i:=4) rfl;clear hyu hyp hx3 hch hul hpl hkk;go_wp2_with fail
      refine wp_region_held_drew (S:=λw'=>w'.cell? ⟨bp,3,none⟩=some (FQ (some ⟨bu,0,none⟩) g.Fg.length g.Fg.length)/\w'.cell? ⟨bp,4,none⟩=some (FQ (some ⟨bl,0,none⟩) g.Fg.length g.Fg.length)) ak ⟨y3,y4⟩ (λhHeld=>?_);refine tkm [0,1,2,3,4,5,6,7,8,9,10,11,12,13,14] ?_;have Cc:=Ac (VSt.drew (HST.out.setU hap cn (k:Int)));have HLD2:=Ac (HLD.out.step HGD.out HKD.out);refine tk2 15 ak rfl λK hK=>?_
      go_simp;obtain⟨W,hW⟩:∃ W:FW,W=(wr.setCell ⟨bu,cn,none⟩ (F6 F5 (k:Int))).drew:=⟨_,rfl⟩;rw[<-hW] at Cc ⊢;clear hW y3 y4 eu ep fu fp ec hHeld HST HLD;have y3:=Cc.out.play.cell (i:=3) rfl;have y4:=Cc.out.play.cell (i:=4) rfl;have hpl:=HLD2.out.afb;rw[He] at hpl;obtain⟨yp,hyp⟩:=FC (l:=P) (k:=cn) EN;have ep:=Cc.out.rl.cell (i:=cn) (v:=F6 F5 yp) (by simp[iZ,hyp]);have fp:=Cc.out.rl.frozen cn;clear hyp hpl;refine hK.out _ _ ⟨y3,y4⟩ (λhHeld=>?_);clear hK K;refine Zb ?_;refine tkm [16] ?_;have Es:=Ac (Cc.out.setP hap cn (j:Int));refine tk2 17 ak rfl λK hK=>?_
      go_simp;obtain⟨W3,hW3⟩:∃ W3:FW,W3=W.setCell ⟨bl,cn,none⟩ (F6 F5 (j:Int)):=⟨_,rfl⟩;rw[<-hW3] at Es ⊢;clear hW3 y3 y4 ep fp hHeld Cc;refine hK.out _ _ ⟨Es.out.play.cell rfl,Es.out.play.cell rfl⟩ (λhHeld=>?_);clear hK K;refine Zb ?_;refine Yf ?_;clear hHeld;refine zaB ?_;go_wp2
      go_roundw
      case rel=>exact⟨j+1,_,_,EN,by go_num,HLD2.out,Es.out⟩
      case measure=>simp[intOf]; omega
     ·go_wp2
      go_roundw
      case rel=>exact⟨k+1,U,P,EN,by go_num,HLD.out.next HX.out EN,HST.out⟩
      case measure=>simp[intOf]; omega
   ·have HPL:=Ac hap;go_wp2
    go_ret2;refine⟨_,rfl,HST.out.bel,?_⟩;have hst:=HST.out;have hS:=FZ hst.bel F;have hld:=HLD.out.done EN;have hus:g.Fg.length=U.length:=hld.afa.symm;have hps:g.Fg.length=P.length:=hld.afb.symm;refine⟨bp,U,P,_,_,_,_,rfl,⟨.inr (by have:=hap.p; omega),hst.play,?_,?_,?_,?_,?_⟩,hld⟩
    ·obtain⟨vn',vi',hh,h1,h2⟩:=HG.out;simp only[Value.agg.injEq,Js,Jd] at hh;obtain⟨_,rfl,rfl,_⟩:=hh;exact h1.keep (λb hb _=>.inl hb) hS
    ·obtain⟨vn',vi',hh,h1,h2⟩:=HG.out;simp only[Value.agg.injEq,Js,Jd] at hh;obtain⟨_,rfl,rfl,_⟩:=hh;exact h2.keep (λb hb _=>.inl hb) hS
    ·have:=hst.ru.ints (F:=Ext F w.heap.size) (.inr (by have:=hap.u; omega)) (c:=U.length) (FV _);rw[<-hus] at this;exact this
    ·have:=hst.rl.ints (F:=Ext F w.heap.size) (.inr (by have:=hap.l; omega)) (c:=P.length) (FV _);rw[<-hps] at this;exact this
    ·exact FM.keep HM.out (λb hb _=>.inl hb) hS
theorem ako {j:Nat} {r:Raw} (h:l[j]? = some r):(l.take (j+1)).map uJ=(l.take j).map uJ ++ [uJ r]:=by rw[FP h,List.map_append]; rfl
theorem aef (w:FW) (F:FI) (vg vm:F7) (g:Gm) (m:List (List Raw)) (hg:AA w F vg g) (hm:FM w F vm m) (hlm:m.length<=100000) (hli:g.Fh.length<=100000) (hb:AX m) (hact:∀ i∈g.Fh,i.actions<=10) :
  Calls FY 41 #[vg,vm] w (Ret w λv _=>v = F6 F5 (kS (g.Fh.map Inf.actions) m)):=by
 have HG:=Ac hg;have HM:=Ac hm;obtain⟨vn,vi,rfl,⟨A,c,rfl,hc,hN⟩,⟨Ai,ci,rfl,hci,hI⟩⟩:=hg;obtain⟨Am,cm,rfl,hcm,hMM⟩:=hm;have HBB:=Ac hb;have HA:=Ac hact;have HI:=Ac hI;clear hN hI hMM hb hact;obtain⟨acts,zV⟩:=FH (g.Fh.map Inf.actions);rw[<-zV];have hal:acts.length=g.Fh.length:=by rw[zV,FX]
 have HAC:=Ac zV;clear zV;obtain⟨es,hes⟩:∃ es:Int,es=if m.length≠g.Fh.length then 3 else 0:=⟨_,rfl⟩
 have HES:=Ac hes;clear hes;go_in;go_wp2_with fail
 refine ZJ ?_;intro W hW rx hB hz;clear hW;replace HG:=Ac (HG.out.on (FZ hB F));replace HM:=Ac (HM.out.below hB);refine Zd ?_;intro x0 x1 x2;clear rx;have hz:w.heap.size+1<=W.heap.size:=EN;go_wp2_with fail
 refine(acJ W F _ _ g m HG.out HM.out hlm hli).mono ?_;rintro e wn ⟨_,rfl,hb,rfl⟩;refine ZL ?_;clear x0 x1 x2;intro x0 x1 x2;replace HM:=Ac (HM.out.below hb);refine Zc ?_;clear hz hB hb;intro hz hB;rw[<-HES.out];by_cases hlen:m.length=g.Fh.length
 ·have HLE:=Ac (show m.length=acts.length by omega);have hle1:m.length<=g.Fh.length:=EN;have hle2:g.Fh.length<=m.length:=EN;have hle3:m.length<=acts.length:=EN;have h0:es=0:=by rw[HES.out];exact L6 (by simpa using hlen)
  have t1:(es != 0)=false:=by rw[h0];rfl
  clear hlen hal h0 HG;dsimp only;go_wp2_with fail
  refine(mP wn 1 aA aA).mono ?_;rintro e wn ⟨u,rfl,hb,hu⟩;refine ZL ?_;clear x0 x1 x2;intro x0 x1 x2;replace HM:=Ac (HM.out.below hb);refine Zc ?_;clear hz hB hb;intro hz hB;obtain⟨one,hone⟩:∃ one:Rat,one=((1:Int):Rat):=⟨_,rfl⟩;rw[<-hone] at hu;have H1:=Ac (show one=1 from hone);clear hone;have BH:=Ac (hu.mono (G:=λ_=>True) (λ_ _ _=>trivial));obtain⟨A1,c1,B1,d1',rfl,hn,hd⟩:=hu.open;clear hn hd hu;dsimp only;go_wp2_with fail
  obtain⟨ob,hob⟩:=FH wn.heap.size;obtain⟨W1,hW1,ry,hB1,hzz⟩:=aJ wn 42 #[Gj (au one).neg,FQ A1 (au one).num.length c1,FQ B1 (au one).den.length d1'];rw[<-hW1];rw[<-hob] at ry ⊢;have hos:ob < W1.heap.size:=ry.lt;clear hW1 hzz hob;replace BH:=Ac (BH.out.below hB1);replace HM:=Ac (HM.out.below hB1);have g2:=ah x2 hB1;have hB2:=hB.trans (hB1.mono hB.size);replace HI:=Ac (λh=>by
   obtain⟨b,o,h1,h2,h3,h4⟩:=HI.out h;exact(⟨b,o,h1,h2,Nat.lt_of_lt_of_le h3 hB2.size,λk x hx=>⟨ah (h4 k x hx).c0 hB2,ah (h4 k x hx).c1 hB2⟩⟩:∃ b o,Ai=some ⟨b,o,none⟩/\F b/\b < W1.heap.size/\∀ k x,g.Fh[k]? = some x->D6 W1 F b (o+k*2) x))
  have o0:=ry.cell (i:=0) rfl;have o1:=ry.cell (i:=1) rfl;have o2:=ry.cell (i:=2) rfl;clear ry hB1 hB x0 x1 x2 hz;have hz2:=hB2.size;go_loopw [7] (λi wr=>∃ k:Nat,k<=m.length/\i = F6 F5 (k:Int)/\iW ((List.zipWith nS acts m).take k)=0/\Below W1.heap.size W1 wr) (λi _=>m.length - (intOf i).toNat)
  case atStart=>exact⟨0,EN,rfl,rfl,F9 _ _⟩
  case round =>
   obtain⟨k,hk,rfl,hpre,hbel⟩:=hrel;have HP:=Ac hpre;clear hpre;by_cases hlt:k < m.length
   ·obtain⟨l,hl⟩:=FC hlt;obtain⟨inf,gU⟩:=FC (l:=g.Fh) (k:=k) EN;have hak:acts[k]? = some inf.actions:=by rw[HAC.out,Gi,gU];rfl
    obtain⟨A0,c0,he,_,hM⟩:=HM.out;cases he;obtain⟨b,o,rfl,hF,hbl,hx⟩:=hM EN;obtain⟨ur,eu0,hrow⟩:=hx k l hl;rw[Gp] at eu0;have HRW:=Ac hrow;obtain⟨Ar,cr,rfl,hcr,_⟩:=hrow;obtain⟨b2,p2,rfl,hF2,anb,hx2⟩:=HI.out EN;have ei0:=(hx2 k inf gU).c1;have hia:inf.actions<=10:=HA.out inf (FT gU);have iJ:=HBB.out l (FT hl);have HFI:=Ac iJ.2;have hll:=iJ.1;have HL:=Ac hl;have HK:=Ac hak;clear hx hx2 hM hl gU hak iJ;have eu:=ah eu0 hbel;have ei:=ah ei0 hbel;have gr:=ah g2 hbel;by_cases hact:(l.length:Int)=inf.actions
    ·have d2:((l.length:Int) != inf.actions)=false:=aG;have CX:=Ac hact;go_wp2_with fail
     go_quiet (fail)
     have hb:Below wr.heap.size wr (wr.drewN nq):=aI (F9 _ wr) nq;have hzr:W1.heap.size<=wr.heap.size:=hbel.size;clear eu ei gr;refine Y4 ?_;clear hzr hbel hb;intro hzr hbel;generalize wr.drewN nq=wq at *;go_wp2_with fail
     refine(mP wq 0 aA aA).mono ?_;rintro e wn ⟨u,rfl,hb,hu⟩;refine Y4 ?_;clear hzr hbel hb;intro hzr hbel;obtain⟨s0,hs0⟩:∃ s0:Rat,s0=((0:Int):Rat):=⟨_,rfl⟩;rw[<-hs0] at hu;have H0:=Ac (show s0=0 from hs0);clear hs0;have HZ:=Ac hu;obtain⟨A3,c3,B3,d3,rfl,hn,hd⟩:=hu.open;clear hn hd hu;dsimp only;go_wp2_with fail
     obtain⟨bs,hbs⟩:=FH wn.heap.size;obtain⟨W2,hW2,rs,hB2',hzz⟩:=aJ wn 42 #[Gj (au s0).neg,FQ A3 (au s0).num.length c3,FQ B3 (au s0).den.length d3];rw[<-hW2];rw[<-hbs] at rs ⊢;have hbs1:W1.heap.size<=bs:=EN;have hZ:RtV W2 (λb=>b≠bs) (.agg #[Gj (au s0).neg,FQ A3 (au s0).num.length c3,FQ B3 (au s0).den.length d3]) s0:=(HZ.out.mono (G:=λb=>b≠bs) (λb _ hl=>by omega)).below hB2';replace hbel:=hbel.trans (hB2'.mono hbel.size);have HST:=Ac rs; have HZ2:=Ac hZ;have hs2:W2.heap.size<=W2.heap.size:=FV _;have hbs2:=rs.lt;clear hW2 hzz hbs HZ rs hZ hB2';go_loopw [9] (λi wi=>∃ (j:Nat) (s:Rat) (A':Option Addr) (c':Nat) (B':Option Addr) (d':Nat),j<=l.length/\i = F6 F5 (j:Int)/\iW ((l.map fC).take j)=0/\s=fO ((l.take j).map uJ)/\rl s<=1+1025*j/\Row wi bs 42 [Gj (au s).neg,FQ A' (au s).num.length c',FQ B' (au s).den.length d'] /\
      RtV wi (λb=>b≠bs) (.agg #[Gj (au s).neg,FQ A' (au s).num.length c',FQ B' (au s).den.length d']) s/\Below W1.heap.size W1 wi/\W2.heap.size<=wi.heap.size) (λi _=>l.length - (intOf i).toNat)
     case atStart=>exact⟨0,s0,A3,c3,B3,d3,EN,rfl,rfl,by rw[H0.out]; rfl,by rw[H0.out,rQ]; omega,HST.out,HZ2.out,hbel,hs2⟩
     case round =>
      clear HST HZ2 hbel hzr H0 hs2;obtain⟨j,s,A',c',B',d',hj,rfl,hpre,hsum,hrs,rs,hnm,hbel,hzr⟩:=hrel;have HPJ:=Ac hpre;have HSU:=Ac hsum;have HNM:=Ac hnm;clear hpre hsum hnm;have eu:=ah eu0 hbel;have p0:=ah o0 hbel;have p1:=ah o1 hbel;have p2:=ah o2 hbel;have HON:=Ac (Ah.mono (G:=λb=>b≠bs) (Ah.below (Ah.old BH.out) hbel) (λb hb _=>by have:=hb.2; omega));by_cases hlt2:j < l.length
      ·obtain⟨A2,c2,he,_,hR⟩:=HRW.out;cases he;obtain⟨b3,o3,rfl,hF3,hb3,hx3⟩:=hR EN;obtain⟨r,hr⟩:=FC hlt2;obtain⟨ex0,⟨vn,ex1,hn⟩,⟨vd,ex2,hd⟩⟩:=hx3 j r hr;have HRV:=Ac (Ah.mono (G:=λb=>b≠bs) ((Ah.below (Ah.old (Ah.make (r:=r) rfl hn hd)) hbel)) (λb hb _=>by have:=hb.2; omega));obtain⟨A4,c4,rfl,_,_⟩:=hn;obtain⟨A5,c5,rfl,_,_⟩:=hd;have hfr:=HFI.out r (FT hr);have HFR:=Ac hfr.1;have hf2:=hfr.2.1;have hf3:=hfr.2.2;have HRR:=Ac hr;have y0:=ex0;have y1:=ex1;have y2:=ex2;replace ex0:=ah ex0 hbel;replace ex1:=ah ex1 hbel;replace ex2:=ah ex2 hbel;clear hx3 hR hr hfr;have aoK:l.length<=10:=by have:=CX.out;omega
       go_wp2_with fail
       refine(tq wr _ _ r HRV.out HFR.out hf2 hf3).mono ?_;rintro e wn ⟨_,rfl,hb,rfl⟩;refine ZK ?_;clear eu p0 p1 p2 ex0 ex1 ex2 HRV HON HNM rs hzr hbel hb;intro eu p0 p1 p2 ex0 ex1 ex2 HRV HON HNM rs hzr hbel;obtain⟨re,hre⟩:=FH (fM r);rw[<-hre];by_cases aff:re=0
       ·have t3:(re != 0)=false:=by rw[aff];rfl
        have h1:fM r=0:=hre.symm.trans aff;have HRE:=Ac hre;have HRE0:=Ac aff;clear hre aff;obtain⟨⟨x,rfl⟩,h2,h3⟩:=xu h1;have hrx:rl x<=1024:=by unfold rl;exact Nat.max_le.2 ⟨h2,h3⟩
        have HE:=Ac (yT x h1);clear h1 h2 h3 HFR hf2 hf3;have hsv:rl (s+x)<=1+1025*(j+1):=by have:=aav s x;omega
        obtain⟨one',hone'⟩:∃ y:Rat,y=1:=⟨_,rfl⟩;have aea:rl one<=20000:=by rw[H1.out,qy];omega
        by_cases hneg:dI x=true
        ·have e1:(au x).neg=true:=hneg;have hse:fC (au x)=2:=HE.out.trans (L8 (.inl hneg));refine zdL ?_;intro hrow HF;clear hneg hse hrow;rw[e1] at ex0;dsimp only;go_wp2_with fail
         go_quiet (fail)
         go_wp2
         go_ret;exact⟨_,rfl,aI (hB2.trans (hbel.mono hB2.size)) _,by rw[HF.out]; rfl⟩
        ·have e1:(au x).neg=false:=by show dI x=false;simpa using hneg
         have HE2:=Ac (HE.out.trans (show(if dI x=true\/0 < jC x 1 then (2:Int) else 0)=if 0 < jC x one then 2 else 0 by
          rw[H1.out];by_cases h:0 < jC x 1
          ·rw[L8 h,L8 (.inr h)]
          ·rw[L6 h,L6 (λk=>k.elim hneg h)]))
         clear hneg HE;rw[e1] at ex0 y0 HRV;obtain⟨e0,he0⟩:=FH (jC x one);rw[<-he0] at HE2;have HO:=Ac he0;clear he0;by_cases h0:0 < e0
         ·have t4:decide (0 < e0)=true:=Mc h0;have hse:fC (au x)=2:=HE2.out.trans (L8 h0);refine zdL ?_;intro hrow HF;clear h0 hse hrow;dsimp only;go_wp2_with fail
          refine Z9 ?_;intro hHeld hb;clear eu p0 p1 p2 ex0 ex1 ex2 HRV HON HNM rs hzr hbel hb;intro eu p0 p1 p2 ex0 ex1 ex2 HRV HON HNM rs hzr hbel;generalize wn.drew=wn at *;refine tkm [0,1,2,3,4,5,6,7,8,9,10,11,12,13,14,15,16] ?_;refine tk2 17 ak rfl λK hK=>?_
          go_simp;refine(pV _ _ _ _ x one HRV.out HON.out EN aea).mono ?_;rintro e wn ⟨_,rfl,hb,rfl⟩;rw[show jC x one=e0 from HO.out.symm];refine ZK ?_;clear eu p0 p1 p2 ex0 ex1 ex2 HRV HON HNM rs hzr hbel hb;intro eu p0 p1 p2 ex0 ex1 ex2 HRV HON HNM rs hzr hbel;dsimp only;clear hHeld;refine hK.out _ _ ⟨eu,p0,p1,p2,ex0,ex1,ex2⟩ (λhHeld=>?_);clear hK K;refine Zb ?_;refine tkm [18,19] ?_;refine Yf ?_;clear hHeld;clear ex0 ex1 ex2 p0 p1 p2 eu;refine ZR ?_;go_wp2
          go_ret;exact⟨_,rfl,hB2.trans (hbel.mono hB2.size),by rw[HF.out]; rfl⟩
         ·have hse:fC (au x)=0:=HE2.out.trans (L6 h0);have HSE:=Ac hse;have t4:decide (0 < e0)=false:=L9 h0;clear h0 hse;dsimp only;go_wp2_with fail
          refine Z9 ?_;intro hHeld hb;clear eu p0 p1 p2 ex0 ex1 ex2 HRV HON HNM rs hzr hbel hb;intro eu p0 p1 p2 ex0 ex1 ex2 HRV HON HNM rs hzr hbel;generalize wn.drew=wn at *;refine tkm [0,1,2,3,4,5,6,7,8,9,10,11,12,13,14,15,16] ?_;refine tk2 17 ak rfl λK hK=>?_
          go_simp;refine(pV _ _ _ _ x one HRV.out HON.out EN aea).mono ?_;rintro e wn ⟨_,rfl,hb,rfl⟩;rw[show jC x one=e0 from HO.out.symm];refine ZK ?_;clear eu p0 p1 p2 ex0 ex1 ex2 HRV HON HNM rs hzr hbel hb;intro eu p0 p1 p2 ex0 ex1 ex2 HRV HON HNM rs hzr hbel;dsimp only;clear hHeld;refine hK.out _ _ ⟨eu,p0,p1,p2,ex0,ex1,ex2⟩ (λhHeld=>?_);clear hK K;refine Zb ?_;refine tkm [18,19] ?_;refine Yf ?_;clear hHeld;clear ex0 ex1 ex2 p0 p1 p2 eu;refine ZR ?_;have eu:=ah eu0 hbel;have s0':=rs.cell (i:=0) rfl;have s1':=rs.cell (i:=1) rfl;have s2':=rs.cell (i:=2) rfl;have ex0:=ah y0 hbel;have ex1:=ah y1 hbel;have ex2:=ah y2 hbel;go_wp2_with fail
          refine aW (λw'=>w'.cell? ⟨b,o+k,none⟩=some (FQ (some ⟨b3,o3,none⟩) l.length cr)/\w'.cell? ⟨bs,0,none⟩=some (Gj (au s).neg)/\w'.cell? ⟨bs,1,none⟩=some (FQ A' (au s).num.length c')/\w'.cell? ⟨bs,2,none⟩=some (FQ B' (au s).den.length d')/\w'.cell? ⟨b3,o3+j*3,none⟩=some (Gj false)/\w'.cell? ⟨b3,o3+j*3+1,none⟩=some (FQ A4 (au x).num.length c4)/\w'.cell? ⟨b3,o3+j*3+2,none⟩=some (FQ A5 (au x).den.length c5)) 9 1 ak rfl ak ?_;have hHeld:(λw':FW=>w'.cell? ⟨b,o+k,none⟩=some (FQ (some ⟨b3,o3,none⟩) l.length cr)/\w'.cell? ⟨bs,0,none⟩=some (Gj (au s).neg)/\w'.cell? ⟨bs,1,none⟩=some (FQ A' (au s).num.length c')/\w'.cell? ⟨bs,2,none⟩=some (FQ B' (au s).den.length d')/\w'.cell? ⟨b3,o3+j*3,none⟩=some (Gj false)/\w'.cell? ⟨b3,o3+j*3+1,none⟩=some (FQ A4 (au x).num.length c4)/\w'.cell? ⟨b3,o3+j*3+2,none⟩=some (FQ A5 (au x).den.length c5)) wn.drew:=⟨eu,s0',s1',s2',ex0,ex1,ex2⟩;refine Zv ?_;refine zaA ?_;intro hb;replace eu:=ah eu hb;replace s0':=ah s0' hb;replace s1':=ah s1' hb;replace s2':=ah s2' hb;replace ex0:=ah ex0 hb;replace ex1:=ah ex1 hb;replace ex2:=ah ex2 hb;replace HRV:=Ac (HRV.out.below hb);replace HNM:=Ac (HNM.out.below hb);replace rs:=rs.below hb rs.lt;refine Y4 ?_;clear hzr hbel hb;intro hzr hbel;generalize wn.drew=wn at *;refine tkm [0,1,2,3,4,5,6,7] ?_;refine tk2 8 ak rfl λK hK=>?_
          go_simp;refine(kV _ _ _ _ s x HNM.out HRV.out EN EN).mono ?_;rintro e wn ⟨u,rfl,hb,hu⟩;have hu2:RtV wn (λb=>b≠bs) u (s+x):=hu.mono (λb hb _=>hb.elim id λh=>by have:=rs.lt; omega);have HU:=Ac hu2;obtain⟨A6,c6,B6,d6,rfl,hn,hd⟩:=hu2.open;clear hn hd hu hu2;replace eu:=ah eu hb;replace s0':=ah s0' hb;replace s1':=ah s1' hb;replace s2':=ah s2' hb;replace ex0:=ah ex0 hb;replace ex1:=ah ex1 hb;replace ex2:=ah ex2 hb;replace HRV:=Ac (HRV.out.below hb);replace HNM:=Ac (HNM.out.below hb);replace rs:=rs.below hb rs.lt;refine Y4 ?_;clear hzr hbel hb;intro hzr hbel;dsimp only;clear hHeld;refine hK.out _ _ ⟨eu,s0',s1',s2',ex0,ex1,ex2⟩ (λhHeld=>?_);refine zdM ?_;clear hK K hHeld;have q0:=rs.cell (i:=0) rfl;have f0:=rs.frozen 0;have q1:=rs.cell (i:=1) rfl;have f1:=rs.frozen 1;have q2:=rs.cell (i:=2) rfl;have f2:=rs.frozen 2;clear eu s0' s1' s2' ex0 ex1 ex2;go_wp2
          refine zaB ?_;go_wp2
          obtain⟨Wz,hWz,hrw,hwz,hkz⟩:=bG rs (Gj (au (s+x)).neg) (FQ A6 (au (s+x)).num.length c6) (FQ B6 (au (s+x)).den.length d6);rw[<-hWz];have hsz:Wz.heap.size=wn.heap.size:=by rw[hWz];simp
          clear hWz q0 q1 q2 f0 f1 f2;have HUU:=Ac (HU.out.keep (λb hb _=>hb) (hkz (λb=>b≠bs) (λh=>h rfl)));go_roundw
          case rel=>exact⟨j+1,s+x,A6,c6,B6,d6,EN,by go_num,pO HPJ.out (by rw[Gi,HRR.out]; show some (fC (au x))=_; rw[HSE.out]),by rw[ako HRR.out,tN,<-HSU.out,qX],hsv,hrw,HUU.out,hwz _ _ EN hbel,EN⟩
          case measure=>simp[intOf]; omega
       ·have t3:(re != 0)=true:=by simp[aff]
        have hse:fC r=re:=by unfold fC;rw[L8 (by rw[<-hre]; exact aff),hre]
        have hrow:=o8 CX.out HPJ.out HRR.out (by rw[hse]; exact aff);have HF:=Ac ((nH HLE.out HP.out HK.out HL.out (by rw[hrow,hse]; exact aff)).trans (hrow.trans hse));clear hre aff hse hrow;dsimp only;go_wp2
        go_ret;exact⟨_,rfl,hB2.trans (hbel.mono hB2.size),by rw[HF.out]; rfl⟩
      ·have hsh:nY l=0:=by
        have:=HPJ.out;rw[Gl aG] at this;exact this
       have hrow:=yt CX.out hsh;have hall:s=fO (l.map uJ):=by rw[HSU.out,Gl EN]
       have AZ:=Ac (show nS inf.actions l=if jC s one≠0 then 14 else 0 by rw[H1.out,hall]; exact hrow);have aoK:l.length<=10:=by have:=CX.out;omega
       have aea:rl one<=20000:=by rw[H1.out,qy];omega
       have s0':=rs.cell (i:=0) rfl;have s1':=rs.cell (i:=1) rfl;have s2':=rs.cell (i:=2) rfl;clear hsh hrow hall;go_wp2_with fail
       refine(pV _ _ _ _ s one HNM.out HON.out EN aea).mono ?_;rintro e wn ⟨_,rfl,hb,rfl⟩;replace p0:=ah p0 hb;replace p1:=ah p1 hb;replace p2:=ah p2 hb;replace s0':=ah s0' hb;replace s1':=ah s1' hb;replace s2':=ah s2' hb;replace HON:=Ac (HON.out.below hb);replace HNM:=Ac (HNM.out.below hb);replace rs:=rs.below hb rs.lt;refine Y4 ?_;clear hzr hbel hb;intro hzr hbel;clear p0 p1 p2 s0' s1' s2' rs HNM HON;generalize jC s one=e0 at *;by_cases h0:e0=0
       ·have t1:(e0 != 0)=false:=by rw[h0];rfl
        have hr0:nS inf.actions l=0:=by rw[AZ.out,L6 (by simpa using h0)]
        have HR0:=Ac hr0;clear hr0 h0;dsimp only;go_wp2
        go_roundw
        case rel=>exact⟨k+1,EN,by go_num,pO HP.out (by rw[abM HK.out HL.out,HR0.out]),hbel⟩
        case measure=>simp[intOf]; omega
       ·refine zc6 ?_;clear h0;intro t1 HE;dsimp only;go_wp2
        go_ret;exact⟨_,rfl,hB2.trans (hbel.mono hB2.size),by rw[HE.out]; rfl⟩
    ·have d2:((l.length:Int) != inf.actions)=true:=aG;have h3:nS inf.actions l=3:=by unfold nS;rw[L8 hact]
     have HE:=Ac ((nH HLE.out HP.out HK.out HL.out (by rw[h3]; decide)).trans h3);clear hact h3;go_wp2_with fail
     go_quiet (fail)
     go_wp2
     go_ret;exact⟨_,rfl,aI (hB2.trans (hbel.mono hB2.size)) _,by rw[HE.out]; rfl⟩
   ·have HE:=Ac (ad9 HLE.out HP.out EN);go_wp2
    go_ret;exact⟨_,rfl,hB2.trans (hbel.mono hB2.size),by rw[HE.out]; rfl⟩
 ·have h3:es=3:=by rw[HES.out];exact L8 hlen
  have t1:(es != 0)=true:=by rw[h3];rfl
  have HE:=Ac (show kS acts m=3 by unfold kS; rw[L8 EN]);have HES3:=Ac h3;clear h3;dsimp only;go_wp2
  go_ret;exact⟨_,rfl,hB,by rw[HE.out,HES3.out]; rfl⟩
end Go.Proofs.YtnmeejofpkhlkaaGreatDoor
