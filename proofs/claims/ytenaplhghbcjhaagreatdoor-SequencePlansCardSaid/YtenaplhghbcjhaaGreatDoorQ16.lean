import Derived.Test.YtenaplhghbcjhaaGreatDoorQ13
import Derived.Lib.TrailingZeros
import Derived.Laws.Bits64b
set_option linter.all false
set_option maxRecDepth 100000
set_option maxHeartbeats 0
namespace Go.Proofs.YtenaplhghbcjhaaGreatDoor
open Go.RowKit.Below renaming refl->GR
open Go renaming World->GK
open Nat renaming gcd->Hr,mul_le_mul_right->II
open Go.Proofs.Tryz renaming prog->GI
open Go.RowKit
def BF (w:GK):Prop:=∀ j,j < Lib.deBruijn64tab.length->w.cell? ⟨0,j,none⟩=some (.int .u8 (Lib.deBruijn64tab.getD j 0))
theorem BF.lt {w:GK} (h:BF w):0 < w.heap.size:=World.block_lt_of_cell? w _ (h 0 au)
theorem BF.below {w w':GK} {B:Nat} (h:BF w) (hB:0 < B) (hb:Below B w w'):BF w':=λj hj=>(hb.cell (p:=⟨0,j,none⟩) hB).trans (h j hj)
theorem BF.on {w w':GK} (h:BF w) (hb:Below w.heap.size w w'):BF w':=h.below h.lt hb
theorem aoo (x a:Nat) (hx:x < 18446744073709551616) (hx0:x≠0) (hlow:x &&& (18446744073709551616 - x)=a) :
  IntKind.u64.wrap (bits BinOp.and IntKind.u64 (x:Int) (IntKind.u64.wrap (-(x:Int)))*285870213051353865) / 288230376151711744=((a*285870213051353865 % 18446744073709551616 / 288230376151711744:Nat):Int):=by
 have e1:IntKind.u64.wrap (-(x:Int))=((18446744073709551616 - x:Nat):Int):=by rw[IntKind.wrap_u64];omega
 rw[e1,bits_and_u64_nat x _ hx FI,hlow,IntKind.wrap_u64];omega
theorem anm (x k idx:Nat) (w:GK) (hx0:((x:Int)==0)=false)
  (key:IntKind.u64.wrap (bits BinOp.and IntKind.u64 (x:Int) (IntKind.u64.wrap (-(x:Int)))*285870213051353865) / 288230376151711744=(idx:Int))
  (hi:idx < 64) (hk:k < 64) (hcell:w.cell? ⟨0,idx,none⟩=some (.int .u8 k)) :
  Calls GI 168 #[.int .u64 x] w λe w'=>e = .returned (.int .i64 k)/\w=w':=by
 go_in;go_wp2_with (simp only[key])
 go_ret;exact⟨rfl,rfl⟩
theorem ah2 (x:Nat) (hx:x < 18446744073709551616) (hx0:x≠0) (w:GK) (hT:BF w) :
  Calls GI 168 #[.int .u64 x] w λe w'=>∃ k m:Nat,e = .returned (.int .i64 k)/\w=w'/\x=2 ^ k*(2*m+1)/\k < 64:=by
 obtain⟨hlow,hk⟩:=Lib.lowest_bit 64 x hx0 hx;obtain⟨hi,htab⟩:=Lib.deBruijn64_at _ hk;have hcell:=hT _ hi;rw[htab] at hcell;obtain⟨m,hm,_⟩:=Lib.ctzFrom_spec 64 x FI hx;have e:Lib.ctz 64 x=Lib.ctzFrom 64 x:=by simp[Lib.ctz,hx0]
 rw[<-e] at hm;refine(anm x _ _ w aB (aoo x _ hx hx0 hlow) hi hk hcell).mono ?_;grind
theorem ajh {k n:Nat} (hk:k < 64):((2 ^ k*n:Nat):Int) / ((2 ^ k:Nat):Int)=(n:Int):=by rw[<-Int.natCast_ediv,Nat.mul_div_cancel_left _ (Nat.pow_pos au)]
theorem agw (w:GK) (a b:Nat) (ha:a < 1000000000000000000) (hb:b < 1000000000000000000) (ha0:a≠0) (hb0:b≠0) (hT:BF w) :
  Calls GI 149 #[.int .u64 (a:Int),.int .u64 (b:Int)] w (Ret w λv _=>v = .int .u64 (Hr a b:Int)):=by
 have ea:((a:Int)==0)=false:=beq_false_of_ne FI;have eb:((b:Int)==0)=false:=beq_false_of_ne FI;have hor0:a ||| b≠0:=by
  intro h;have:=Nat.left_le_or (n:=a) (m:=b);omega
 have hor:a ||| b < 18446744073709551616:=Nat.or_lt_two_pow (n:=64) FI FI
 go_in;go_wp2_with fail
 rw[show bits BinOp.or IntKind.u64 (a:Int) (b:Int)=((a ||| b:Nat):Int) from bits_or_u64_nat a b FI FI];refine(ah2 _ hor hor0 w hT).mono ?_;rintro e w' ⟨s,r,rfl,rfl,hs,hs64⟩;have HS:=Ag hs;clear hs;dsimp only;go_wp2_with fail
 refine(ah2 a FI ha0 w hT).mono ?_;rintro e w' ⟨i,m,rfl,rfl,hi,hi64⟩;have HI:=Ag hi;clear hi;dsimp only;go_wp2_with fail
 have haq:(a:Int) / 2 ^ i=((2*m+1:Nat):Int):=by rw[HI.o];exact_mod_cast ajh hi64
 rw[haq];have hmb:2*m+1<=a:=by have h:=HI.o;have:1*(2*m+1)<=2 ^ i*(2*m+1):=II _ (Nat.pow_pos au);omega
 have HG:=Ag (show ∀ (jj nn:Nat),b=2 ^ jj*(2*nn+1)->Hr (2*m+1) b*2 ^ s=Hr a b from λjj nn h=>am7 HI.o h HS.o);clear haq;obtain⟨G,hG⟩:=Gp (Hr (2*m+1) b);have HGG:=Ag hG;have HGO:=Ag hG;clear hG;go_loopw [0,1] (λav bv wr=>∃ x y:Nat,av = .int .u64 (x:Int)/\bv = .int .u64 (y:Int)/\(∃ q,x=2*q+1)/\x < 1000000000000000000/\y < 1000000000000000000/\G=Hr x y/\w=wr) (λav bv _=>(intOf av).toNat+(intOf bv).toNat)
 case atStart=>exact⟨2*m+1,b,rfl,rfl,⟨m,rfl⟩,FI,hb,HGG.o,rfl⟩
 case round =>
  clear HGG;obtain⟨x,y,rfl,rfl,hq,hx,hy,hg,rfl⟩:=hrel;have HQ:=Ag hq;have HGX:=Ag hg;have hx1:1<=x:=by obtain⟨q,hq⟩:=hq;omega
  clear hq hg;by_cases h0:y=0
  ·have HF:=Ag (show x=G by rw[HGX.o,h0,Nat.gcd_zero_right]);subst h0;obtain⟨j,n,hj⟩:∃ jj nn:Nat,b=2 ^ jj*(2*nn+1):=by
    obtain⟨n,h1,_⟩:=Lib.ctzFrom_spec 64 b FI FI;exact⟨_,n,h1⟩
   have hfin:x*2 ^ s=Hr a b:=by rw[HF.o,HGO.o];exact HG.o j n hj
   have hle:Hr a b<=a:=Nat.gcd_le_left _ FI;have HE:=Ag hfin;clear hj hfin;go_wp2
   go_ret;refine⟨_,rfl,GR _ _,?_⟩;show Value.int .u64 (IntKind.u64.wrap ((x:Int)*2 ^ s))=_;rw[<-HE.o,IntKind.wrap_u64];have hx2:((x:Int)*2 ^ s)=((x*2 ^ s:Nat):Int):=aA;rw[hx2];have:=HE.o;congr 1;omega
  ·have hd:((y:Int) != 0)=true:=aB;go_wp2_with fail
   refine(ah2 y FI h0 _ hT).mono ?_;rintro e w' ⟨k,n,rfl,rfl,hk,hk64⟩;have HK:=Ag hk;clear hk;have hyn:2*n+1<=y:=by have h:=HK.o;have:1*(2*n+1)<=2 ^ k*(2*n+1):=II _ (Nat.pow_pos au);omega
   have hyq:(y:Int) / 2 ^ k=((2*n+1:Nat):Int):=by rw[HK.o];exact_mod_cast ajh hk64
   have HYQ:=Ag hyq; clear hyq;have HGN:=Ag (show G=Hr x (2*n+1) by
    obtain⟨q,hq⟩:=HQ.o;rw[HGX.o,hq,HK.o]; exact acf k q (2*n+1))
   obtain⟨z,hz⟩:=Gp (2*n+1);have HZ:=Ag hz;rw[<-hz] at hyn HYQ HGN;clear hz;have hzx:z < 1000000000000000000:=FI;have HZO:=Ag (show ∃ q,z=2*q+1 from⟨n,HZ.o⟩);by_cases hlt:z < x
   ·have hd2:decide ((y:Int) / 2 ^ k < (x:Int))=true:=by rw[HYQ.o];exact LK FI
    have HGE:=Ag (show G=Hr z (x - z) by rw[HGN.o,Nat.gcd_comm]; exact(Nat.gcd_sub_self_right (Nat.le_of_lt hlt)).symm);dsimp only;go_wp2_with fail
    rw[HYQ.o];refine⟨⟨z,x - z,rfl,?_,HZO.o,hzx,FI,HGE.o,trivial⟩,?_⟩
    ·congr 1; rw[IntKind.wrap_u64]; omega
    ·simp only[intOf];rw[IntKind.wrap_u64];omega
   ·have hd2:decide ((y:Int) / 2 ^ k < (x:Int))=false:=by rw[HYQ.o];exact LJ FI
    have HGE:=Ag (show G=Hr x (z - x) by rw[HGN.o]; exact(Nat.gcd_sub_self_right FI).symm);dsimp only;go_wp2_with fail
    rw[HYQ.o];refine⟨⟨x,z - x,rfl,?_,HQ.o,hx,FI,HGE.o,trivial⟩,?_⟩
    ·congr 1; rw[IntKind.wrap_u64]; omega
    ·simp only[intOf];rw[IntKind.wrap_u64];omega
theorem zJ (w:GK) (a b:Nat) (ha:a < 1000000000000000000) (hb:b < 1000000000000000000) (hT:BF w) :
  Calls GI 149 #[.int .u64 (a:Int),.int .u64 (b:Int)] w (Ret w λv _=>v = .int .u64 (Hr a b:Int)):=by
 by_cases ha0:a=0
 ·subst ha0;have HG:=Ag (Nat.gcd_zero_left b);go_in;go_wp2
  go_ret;exact⟨_,rfl,GR _ _,by rw[HG.o]; rfl⟩
 by_cases hb0:b=0
 ·subst hb0;have HG:=Ag (Nat.gcd_zero_right a);have ea:((a:Int)==0)=false:=beq_false_of_ne FI;go_in;go_wp2
  go_ret;exact⟨_,rfl,GR _ _,by rw[HG.o]; rfl⟩
 exact agw w a b ha hb ha0 hb0 hT
