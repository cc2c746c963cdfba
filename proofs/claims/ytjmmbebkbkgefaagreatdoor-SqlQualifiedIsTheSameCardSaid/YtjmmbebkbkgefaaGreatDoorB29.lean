/- Part 29; the last part says what is proved. No condition. -/
import Derived.Test.YtjmmbebkbkgefaaGreatDoorB17
set_option linter.unusedVariables false
set_option linter.unusedSimpArgs false
set_option maxHeartbeats 800000
set_option maxRecDepth 100000
namespace Go.Proofs.YtjmmbebkbkgefaaGreatDoor
open Go.RowKit Go.Sort Tryz
theorem Yz (w:World) (o:Obj) (n:Nat) (h:n=w.heap.size):(w.alloc o).heap[n]?=some o:=by subst h;show(w.heap.push _)[w.heap.size]?=_;simp
theorem Z5 {w:World} {o:Obj} {n:Nat} {x:Option Obj} (h:n<w.heap.size) (hx:w.heap[n]?=x):(w.alloc o).heap[n]?=x:=by
 rw[<- hx];show(w.heap.push _)[n]?=_;rw[Array.getElem?_push,if_neg (by omega)]
theorem Yk (c:UInt8):(escB c).length<=3:=by unfold escB;split<;>simp
def escTo (s:ByteArray) (k:Nat):List UInt8:=39::(s.data.toList.take k).flatMap escB
theorem Ro (s:ByteArray) (k:Nat):(escTo s k).length<=3 * k+1:=by
 have h:∀l:List UInt8,(l.flatMap escB).length<=3 * l.length:=by
  intro l
  induction l with
  | nil=>simp
  | cons c l ih=>have:=Yk c;simp only[List.flatMap_cons,List.length_append,List.length_cons];omega
 have:=h (s.data.toList.take k);have h2:(s.data.toList.take k).length<=k:=List.length_take_le _ _;simp only[escTo,List.length_cons];omega
theorem Pg (s:ByteArray) (k:Nat) (h:k<s.size):escTo s (k+1)=escTo s k++escB s[k]:=by
 unfold escTo;rw[Tx s k h];simp
theorem Z2 (s:ByteArray):escTo s s.size++[39]=printText s:=by
 unfold escTo printText;rw[List.take_of_length_le (by simp)];simp
theorem Kh (n:Nat) (h:n<16) (w:World):(Instr.index 9 (.string ⟨#[48,49,50,51,52,53,54,55,56,57,97,98,99,100,101,102]⟩) (.int .u8 (n:Int))).run prog w=.ok (.int .u8 ((hexD n).toNat:Int)) w:=by
 obtain rfl|rfl|rfl|rfl|rfl|rfl|rfl|rfl|rfl|rfl|rfl|rfl|rfl|rfl|rfl|rfl:=dd n h
 all_goals kernel_rfl
theorem Zu (c:Nat) (h:c<256) (w:World):(Instr.index 9 (.string ⟨#[48,49,50,51,52,53,54,55,56,57,97,98,99,100,101,102]⟩) (.int .u8 ((c:Int)/16))).run prog w=.ok (.int .u8 ((hexD (c/16)).toNat:Int)) w:=by
 have e:(c:Int)/16=((c/16:Nat):Int):=by omega
 rw[e];exact Kh _ (by omega) w
theorem Zt (c:Nat) (w:World):(Instr.index 9 (.string ⟨#[48,49,50,51,52,53,54,55,56,57,97,98,99,100,101,102]⟩) (.int .u8 ((c:Int) % 16))).run prog w=.ok (.int .u8 ((hexD (c % 16)).toNat:Int)) w:=by
 have e:(c:Int) % 16=((c % 16:Nat):Int):=by omega
 rw[e];exact Kh _ (by omega) w
theorem cx (c:Nat) (h:c<256):bits .and .u8 (c:Int) 15=(c:Int) % 16:=by
 have:=u8_and_nat c 15 h (by decide);rw[show((15:Nat):Int)=15 from rfl]at this;rw[this,show(15:Nat)=2 ^ 4 - 1 from rfl,Nat.and_two_pow_sub_one_eq_mod];omega
theorem Qk (s:ByteArray) (n:Int) (w:World) (hs:s.size<=1000000):
 Calls prog 131 #[.agg #[.int .i64 2,.int .i64 n,.string s]] w fun e w'=>e=.returned (.string ⟨(printText s).toArray⟩)/\Below w.heap.size w w':=by
 go_enter func131,ntmps131
 go_wp2_with fail
 go_loopw [3,25] (fun o i wr=>∃k:Nat,k<=s.size/\i=.int .i64 k/\OwnsBytes wr (w.heap.size+1) o (escTo s k)/\Below (w.heap.size+1) (w.alloc (Obj.cells #[.int .i64 2,.int .i64 n,.string s] 24)) wr) (fun _ i _=>s.size - (intOf i).toNat)
 case atStart=>exact⟨0,by omega,rfl,⟨rfl,Or.inr ⟨w.heap.size+1,1,#[.int .u8 39],rfl,Nat.le_refl _,by repeat(first|(refine Yz _ _ _ ?_;focus (simp;done))|(refine Z5 ?_ ?_;focus (first|omega|(simp;done)|(simp;omega)))),Nat.le_refl _,by simp[maxLen],rfl,rfl⟩⟩,(Below.refl _ _).alloc (by simp) _⟩
 case round=>
  obtain⟨k,hk,rfl,hown,hb⟩:=hrel;have HO:=Lib.hid hown;have HB:=Lib.hid hb;have x2:wr.cell? ⟨w.heap.size,2,none⟩=some (.string s):=hb.cell_some (by omega) (by go_cell);clear hown hb;by_cases hlt:k<s.size
  ·have hpl:=fun w=>Ho (s[k].toNat:Int) w;have HP:=Lib.hid hpl;clear hpl
   cases hp:plainB (s[k].toNat:Int)
   ·rw[hp]at HP;go_wp2_with fail;refine(HP.out _).mono ?_;rintro e w' ⟨rfl,rfl⟩;go_wp2_with fail;have hb256:s[k].toNat<256:=s[k].toNat_lt;have i1:=fun w=>Zu s[k].toNat hb256 w;have i2:=fun w=>Zt s[k].toNat w;have a1:=cx s[k].toNat hb256;refine Ab 8 [(0,false),(1,false),(2,false),(3,false),(4,false),(5,false),(6,false),(7,true)] (by kernel_rfl) (by kernel_rfl) ?_;repeat(refine An rfl (fun K hK=>?_);go_simp;first|(refine hK _ ?_;clear hK K)|(apply Exists.intro;refine⟨fun _=>?_,hK _ ?_⟩;(fail);clear hK K))
    clear i1 i2 a1;refine I1 rfl ?_;intro w1 hb1 _;go_wp2_with fail;refine⟨hb1.alloc hb1.size _,Dc ?_⟩;intro w2 hb2 _;have hblk:=hb2.blk_kept (Nc w1 _);have hown2:OwnsBytes w2 (w.heap.size+1) u3 (escTo s k):=OwnsBytes.kept HO.out ((hb1.alloc hb1.size _).step hb2);have HO2:=Lib.hid hown2;have HK:=Lib.hid hblk;have HB2:Hid (Below (w.heap.size+1) (w.alloc (Obj.cells #[.int .i64 2,.int .i64 n,.string s] 24)) w2):=HB.out.trans (((hb1.alloc hb1.size _).step hb2).mono (by have:=HB.out.size;simp at this;omega));have hlen:=Ro s k;clear hb1 hb2 hblk hown2;simp only[List.drop_succ_cons,List.drop_zero];go_wp2_with(at_builtin;go_must (refine Gz rfl _ _ 139 rfl 5 (.int .u8 0) 1 underlying139 O3 rfl (w.heap.size+1) u3 _ _ rfl HO2.out #[.int .u8 92,.int .u8 ((hexD (s[k].toNat/16)).toNat:Int),.int .u8 ((hexD (s[k].toNat % 16)).toNat:Int)] w1.heap.size 5 (0,0) rfl HK.out (by simp[Value.oneCell']) (by simp;omega) (by simp[maxLen];omega) (by have:=HB2.out.size;simp at this;omega) ?_));intro v3 w3 hown3 hg3;have HO3:=Lib.hid hown3;have HB3:Hid (Below (w.heap.size+1) (w.alloc (Obj.cells #[.int .i64 2,.int .i64 n,.string s] 24)) w3):=Below.grown HB2.out hg3 (by have:=HB2.out.size;simp at this;omega) (fun k hk=>(World.ownsRow.lt HO2.out k hk).1);clear hown3 hg3;go_wp2_with fail;go_roundw
    case rel=>exact⟨k+1,by omega,by go_num,OwnsBytes.of HO3.out (by rw[Pg s k hlt,escB,hp,B5];rfl),HB3.out⟩
    case measure=>simp[intOf];omega
   ·rw[hp]at HP;go_wp2_with fail;refine(HP.out _).mono ?_;rintro e w' ⟨rfl,rfl⟩;have hlen:=Ro s k;go_wp2_with(at_builtin;go_must (refine Bz rfl _ _ 139 rfl 5 (.int .u8 0) 1 underlying139 O3 rfl (w.heap.size+1) u3 _ _ rfl HO.out #[.int .u8 (s[k].toNat:Int)] wr.heap.size rfl rfl (by simp[Value.oneCell']) (by simp;omega) (by simp[maxLen];omega) (by have:=HB.out.size;simp at this;omega) ?_));intro v3 w3 hown3 hg3;have HO3:=Lib.hid hown3;have HB3:Hid (Below (w.heap.size+1) (w.alloc (Obj.cells #[.int .i64 2,.int .i64 n,.string s] 24)) w3):=Below.grown HB.out hg3 (by have:=HB.out.size;simp at this;omega) (fun k hk=>(World.ownsRow.lt HO.out k hk).1);clear hown3 hg3;go_wp2_with fail;go_roundw
    case rel=>exact⟨k+1,by omega,by go_num,OwnsBytes.of HO3.out (by rw[Pg s k hlt,escB,hp,B5];rfl),HB3.out⟩
    case measure=>simp[intOf];omega
  ·obtain rfl:k=s.size:=by omega
   have hlen:=Ro s s.size;go_wp2_with(at_builtin;go_must (refine Bz rfl _ _ 139 rfl 5 (.int .u8 0) 1 underlying139 O3 rfl (w.heap.size+1) u3 _ _ rfl HO.out #[.int .u8 39] wr.heap.size rfl rfl (by simp[Value.oneCell']) (by simp;omega) (by simp[maxLen];omega) (by have:=HB.out.size;simp at this;omega) ?_));intro v3 w3 hown3 hg3;have ho3:OwnsBytes w3 (w.heap.size+1) v3 (printText s):=OwnsBytes.of hown3 (by rw[<- Z2,B5];rfl);have HB3:Hid (Below (w.heap.size+1) (w.alloc (Obj.cells #[.int .i64 2,.int .i64 n,.string s] 24)) w3):=Below.grown HB.out hg3 (by have:=HB.out.size;simp at this;omega) (fun k hk=>(World.ownsRow.lt HO.out k hk).1);obtain⟨g,cap,rfl,hconv⟩:=ho3.string (by simp[printText]);clear hown3 hg3 ho3;go_wp2_with fail;go_returns;exact⟨rfl,((Below.refl _ w).alloc (Nat.le_refl _) _).trans (HB3.out.mono (by omega))⟩
theorem Uv (v:V) (hr:v.right=true) (w:World) (htab:Lib.TabIs prog w "internal/strconv.uint64pow10" .u64 Lib.pow10Tab):
 Calls prog 131 #[v.val] w fun e w'=>e=.returned (.string ⟨v.print.toArray⟩)/\Below w.heap.size w w':=by
 obtain⟨k,n,s⟩:=v
 have hk:k=0\/k=1\/k=2\/k=3:=by
  unfold V.right at hr;simp only at hr;repeat' split at hr
  all_goals first|omega|(cases hr)
 unfold V.val
 obtain rfl|rfl|rfl|rfl:=hk
 ·clear hr;have HT:=Lib.hid htab;clear htab;go_enter func131,ntmps131;go_wp2;go_returns;exact⟨rfl,by go_grown⟩
 ·have hn:-1000000000000000<=n/\n<=1000000000000000:=by simp[V.right]at hr;omega
  clear hr;have HT:=Lib.hid (Lib.tabBelow_of_tabIs htab);clear htab;have C:=Lib.hid (fun w h=>Tryz.strconv_Itoa n (by omega) (by omega) w h);go_enter func131,ntmps131;go_wp2_with fail;refine(C.out _ (HT.out _ (by go_grown))).mono ?_;rintro e w1 ⟨rfl,d,os,hw1⟩;have HB1:Hid (Below (w.heap.size+1) (w.alloc (Obj.cells #[.int .i64 1,.int .i64 n,.string s] 24)) w1):=by
   show Below _ _ _;rw[hw1];exact Lib.below_grow _ _ (by simp) _ _
  clear hw1;go_wp2_with fail;go_returns;exact⟨rfl,((Below.refl _ w).alloc (Nat.le_refl _) _).trans (HB1.out.mono (by simp))⟩
 ·have hn:s.size<=40:=by simp[V.right]at hr;omega
  exact Qk s n w (by omega)
 ·clear hr htab;have C:=Lib.hid Tryz.strconv_FormatBool
  cases h1:(n==1);all_goals
   have H1:=Lib.hid h1
   go_enter func131,ntmps131
   go_wp2_with fail
   refine(C.out _ _).mono ?_
   rintro e w1 ⟨rfl,rfl⟩
   go_wp2_with fail
   go_returns
   refine⟨?_,by go_grown⟩
   simp[V.print,H1.out]
end Go.Proofs.YtjmmbebkbkgefaaGreatDoor
