/- Part 32; the last part says what is proved. No condition. -/
import Derived.Test.YtjmmbebkbkgefaaGreatDoorB30
import Derived.Test.YtjmmbebkbkgefaaGreatDoorB31
set_option linter.unusedVariables false
set_option linter.unusedSimpArgs false
set_option maxHeartbeats 4000000
set_option maxRecDepth 100000
namespace Go.Proofs.YtjmmbebkbkgefaaGreatDoor
open Go.RowKit Go.Sort Tryz
variable {base wb:Nat} {w0 w w' w2:World} {L:List Blk} {xs ys zs:List Bytes}
theorem WFr.off (h:WFr base wb w0 w L xs) (i:Nat) {b:Nat} {cs:Array Value} {t:TypeId} (hi:L[i]?=some (b,cs,t)):¬WOwn wb w b:=h.apart _ (List.mem_of_getElem? hi)
theorem bn (t n:Bytes) (v:V) (a:Option Addr) (m c:Nat) (rule:Int) (body:List Bytes) (w:World) (h:Wrt base w wb xs) (he:Env base w) (hn:xs.length+(whenP (decide (6<rule)) [[40]]++body++whenP (decide (6<rule)) [[41]]).length+10<=1000000000)
 (C:Hid (∀(b3 b4:Nat) (W:World) (zs:List Bytes),zs.length+body.length+10<=1000000000->ExClo wb b3 b4 W #[.int .i64 1,.string ⟨t.toArray⟩,.string ⟨n.toArray⟩,.int .i64 v.k,.int .i64 v.n,.string v.s,.slice a m c]->Turn (base≤·) w W->Wrt base W wb zs->Env base W->Calls prog 190 #[.pointer (some ⟨b3,0,none⟩),.pointer (some ⟨b4,0,none⟩)] W (Puts base wb W (zs++body)))):
 Calls prog 132 #[.pointer (some ⟨wb,0,none⟩),.agg #[.int .i64 1,.string ⟨t.toArray⟩,.string ⟨n.toArray⟩,.int .i64 v.k,.int .i64 v.n,.string v.s,.slice a m c],.int .i64 rule] w (Puts base wb w (xs++(whenP (decide (6<rule)) [[40]]++body++whenP (decide (6<rule)) [[41]]))):=by
 have H:=Lib.hid h
 have HE:=Lib.hid he
 have S0:Hid (WFr base wb w (((w.alloc (.cells #[.pointer (some ⟨wb,0,none⟩)] 117)).alloc (.cells #[.int .i64 1,.string ⟨t.toArray⟩,.string ⟨n.toArray⟩,.int .i64 v.k,.int .i64 v.n,.string v.s,.slice a m c] 27)).alloc (.cells #[.int .i64 6] 3)) [(w.heap.size+1+1,#[.int .i64 6],3),(w.heap.size+1,#[.int .i64 1,.string ⟨t.toArray⟩,.string ⟨n.toArray⟩,.int .i64 v.k,.int .i64 v.n,.string v.s,.slice a m c],27),(w.heap.size,#[.pointer (some ⟨wb,0,none⟩)],117)] xs):=by
  have:=WFr.alloc (WFr.alloc (WFr.alloc (WFr.start h) (cs:=#[.pointer (some ⟨wb,0,none⟩)]) (t:=117)) (cs:=#[.int .i64 1,.string ⟨t.toArray⟩,.string ⟨n.toArray⟩,.int .i64 v.k,.int .i64 v.n,.string v.s,.slice a m c]) (t:=27)) (cs:=#[.int .i64 6]) (t:=3);simp only[World.size_alloc]at this;exact this
 obtain⟨b,hb⟩:∃b,decide ((6:Int)<rule)=b:=⟨_,rfl⟩
 rw[hb]at hn ⊢
 simp only[List.length_append]at hn
 have hlen:∀p,(whenP b [p]).length<=1:=by intro p;cases b<;>simp[whenP]
 have hl1:=hlen [40]
 have hmf:∀(fn:Fn) (first cap:Array Value) (w:World),(Instr.makeFunc fn first cap).run prog w=.ok (.func fn first cap) w:=fun _ _ _ _=>rfl
 clear h he hlen
 go_enter func132,ntmps132
 go_upto_region 19 with fail
 refine WFr.gen S0.out ?_
 intro w1 S1
 clear S0
 have F1:=S1.out.facts
 simp only[St.Facts,cellFacts,apartFacts,and_true]at F1
 go_wp2_with fail
 refine(WFr.alloc S1.out).call (A4 b [[40]] _ _ (WFr.alloc S1.out).wrt ((WFr.alloc S1.out).env H.out HE.out).hi (slAt_parts ((WFr.alloc S1.out).blk 0 rfl) rfl rfl (by decide)) (by simp) (by simp;omega)) ?_
 intro w2 S2
 have HX:Hid (ExClo wb w.heap.size (w.heap.size+1) w2 #[.int .i64 1,.string ⟨t.toArray⟩,.string ⟨n.toArray⟩,.int .i64 v.k,.int .i64 v.n,.string v.s,.slice a m c]):=⟨(S2.out.tail).blk 2 rfl,(S2.out.tail).blk 1 rfl,(S2.out.tail).off 2 rfl,(S2.out.tail).off 1 rfl⟩
 have S2':=Lib.hid S2.out.tail
 clear F1 S1 S2
 go_wp2_with fail
 refine S2'.out.call (C.out _ _ _ _ (by simp;omega) HX.out (S2'.out.old H.out) S2'.out.wrt (S2'.out.env H.out HE.out)) ?_
 intro w3 S3
 have F3:=S3.out.facts
 simp only[St.Facts,cellFacts,apartFacts,and_true]at F3
 clear S2' HX C
 go_wp2_with fail
 refine(WFr.alloc S3.out).call (A4 b [[41]] _ _ (WFr.alloc S3.out).wrt ((WFr.alloc S3.out).env H.out HE.out).hi (slAt_parts ((WFr.alloc S3.out).blk 0 rfl) rfl rfl (by decide)) (by simp) (by simp;omega)) ?_
 intro w4 S4
 go_wp2_with fail
 go_returns
 rw[<- List.append_assoc,<- List.append_assoc]
 exact S4.out.done
theorem bm (t n:Bytes) (v:V) (a:Option Addr) (m c:Nat) (rule:Int) (body:List Bytes) (w:World) (h:Wrt base w wb xs) (he:Env base w) (hn:xs.length+(whenP (decide (6<rule)) [[40]]++body++whenP (decide (6<rule)) [[41]]).length+10<=1000000000)
 (C:Hid (∀(b3 b4:Nat) (W:World) (zs:List Bytes),zs.length+body.length+10<=1000000000->ExClo wb b3 b4 W #[.int .i64 2,.string ⟨t.toArray⟩,.string ⟨n.toArray⟩,.int .i64 v.k,.int .i64 v.n,.string v.s,.slice a m c]->Turn (base≤·) w W->Wrt base W wb zs->Env base W->Calls prog 191 #[.pointer (some ⟨b3,0,none⟩),.pointer (some ⟨b4,0,none⟩)] W (Puts base wb W (zs++body)))):
 Calls prog 132 #[.pointer (some ⟨wb,0,none⟩),.agg #[.int .i64 2,.string ⟨t.toArray⟩,.string ⟨n.toArray⟩,.int .i64 v.k,.int .i64 v.n,.string v.s,.slice a m c],.int .i64 rule] w (Puts base wb w (xs++(whenP (decide (6<rule)) [[40]]++body++whenP (decide (6<rule)) [[41]]))):=by
 have H:=Lib.hid h
 have HE:=Lib.hid he
 have S0:Hid (WFr base wb w (((w.alloc (.cells #[.pointer (some ⟨wb,0,none⟩)] 117)).alloc (.cells #[.int .i64 2,.string ⟨t.toArray⟩,.string ⟨n.toArray⟩,.int .i64 v.k,.int .i64 v.n,.string v.s,.slice a m c] 27)).alloc (.cells #[.int .i64 6] 3)) [(w.heap.size+1+1,#[.int .i64 6],3),(w.heap.size+1,#[.int .i64 2,.string ⟨t.toArray⟩,.string ⟨n.toArray⟩,.int .i64 v.k,.int .i64 v.n,.string v.s,.slice a m c],27),(w.heap.size,#[.pointer (some ⟨wb,0,none⟩)],117)] xs):=by
  have:=WFr.alloc (WFr.alloc (WFr.alloc (WFr.start h) (cs:=#[.pointer (some ⟨wb,0,none⟩)]) (t:=117)) (cs:=#[.int .i64 2,.string ⟨t.toArray⟩,.string ⟨n.toArray⟩,.int .i64 v.k,.int .i64 v.n,.string v.s,.slice a m c]) (t:=27)) (cs:=#[.int .i64 6]) (t:=3);simp only[World.size_alloc]at this;exact this
 obtain⟨b,hb⟩:∃b,decide ((6:Int)<rule)=b:=⟨_,rfl⟩
 rw[hb]at hn ⊢
 simp only[List.length_append]at hn
 have hlen:∀p,(whenP b [p]).length<=1:=by intro p;cases b<;>simp[whenP]
 have hl1:=hlen [40]
 have hmf:∀(fn:Fn) (first cap:Array Value) (w:World),(Instr.makeFunc fn first cap).run prog w=.ok (.func fn first cap) w:=fun _ _ _ _=>rfl
 clear h he hlen
 go_enter func132,ntmps132
 go_upto_region 19 with fail
 refine WFr.gen S0.out ?_
 intro w1 S1
 clear S0
 have F1:=S1.out.facts
 simp only[St.Facts,cellFacts,apartFacts,and_true]at F1
 go_wp2_with fail
 refine(WFr.alloc S1.out).call (A4 b [[40]] _ _ (WFr.alloc S1.out).wrt ((WFr.alloc S1.out).env H.out HE.out).hi (slAt_parts ((WFr.alloc S1.out).blk 0 rfl) rfl rfl (by decide)) (by simp) (by simp;omega)) ?_
 intro w2 S2
 have HX:Hid (ExClo wb w.heap.size (w.heap.size+1) w2 #[.int .i64 2,.string ⟨t.toArray⟩,.string ⟨n.toArray⟩,.int .i64 v.k,.int .i64 v.n,.string v.s,.slice a m c]):=⟨(S2.out.tail).blk 2 rfl,(S2.out.tail).blk 1 rfl,(S2.out.tail).off 2 rfl,(S2.out.tail).off 1 rfl⟩
 have S2':=Lib.hid S2.out.tail
 clear F1 S1 S2
 go_wp2_with fail
 refine S2'.out.call (C.out _ _ _ _ (by simp;omega) HX.out (S2'.out.old H.out) S2'.out.wrt (S2'.out.env H.out HE.out)) ?_
 intro w3 S3
 have F3:=S3.out.facts
 simp only[St.Facts,cellFacts,apartFacts,and_true]at F3
 clear S2' HX C
 go_wp2_with fail
 refine(WFr.alloc S3.out).call (A4 b [[41]] _ _ (WFr.alloc S3.out).wrt ((WFr.alloc S3.out).env H.out HE.out).hi (slAt_parts ((WFr.alloc S3.out).blk 0 rfl) rfl rfl (by decide)) (by simp) (by simp;omega)) ?_
 intro w4 S4
 go_wp2_with fail
 go_returns
 rw[<- List.append_assoc,<- List.append_assoc]
 exact S4.out.done
theorem Zx (t n:Bytes) (v:V) (a:Option Addr) (m c:Nat) (rule:Int) (body:List Bytes) (w:World) (h:Wrt base w wb xs) (he:Env base w) (hn:xs.length+(whenP (decide (2<rule)) [[40]]++body++whenP (decide (2<rule)) [[41]]).length+10<=1000000000)
 (C:Hid (∀(b3 b4:Nat) (W:World) (zs:List Bytes),zs.length+body.length+10<=1000000000->ExClo wb b3 b4 W #[.int .i64 14,.string ⟨t.toArray⟩,.string ⟨n.toArray⟩,.int .i64 v.k,.int .i64 v.n,.string v.s,.slice a m c]->Turn (base≤·) w W->Wrt base W wb zs->Env base W->Calls prog 192 #[.pointer (some ⟨b3,0,none⟩),.pointer (some ⟨b4,0,none⟩)] W (Puts base wb W (zs++body)))):
 Calls prog 132 #[.pointer (some ⟨wb,0,none⟩),.agg #[.int .i64 14,.string ⟨t.toArray⟩,.string ⟨n.toArray⟩,.int .i64 v.k,.int .i64 v.n,.string v.s,.slice a m c],.int .i64 rule] w (Puts base wb w (xs++(whenP (decide (2<rule)) [[40]]++body++whenP (decide (2<rule)) [[41]]))):=by
 have H:=Lib.hid h
 have HE:=Lib.hid he
 have S0:Hid (WFr base wb w (((w.alloc (.cells #[.pointer (some ⟨wb,0,none⟩)] 117)).alloc (.cells #[.int .i64 14,.string ⟨t.toArray⟩,.string ⟨n.toArray⟩,.int .i64 v.k,.int .i64 v.n,.string v.s,.slice a m c] 27)).alloc (.cells #[.int .i64 2] 3)) [(w.heap.size+1+1,#[.int .i64 2],3),(w.heap.size+1,#[.int .i64 14,.string ⟨t.toArray⟩,.string ⟨n.toArray⟩,.int .i64 v.k,.int .i64 v.n,.string v.s,.slice a m c],27),(w.heap.size,#[.pointer (some ⟨wb,0,none⟩)],117)] xs):=by
  have:=WFr.alloc (WFr.alloc (WFr.alloc (WFr.start h) (cs:=#[.pointer (some ⟨wb,0,none⟩)]) (t:=117)) (cs:=#[.int .i64 14,.string ⟨t.toArray⟩,.string ⟨n.toArray⟩,.int .i64 v.k,.int .i64 v.n,.string v.s,.slice a m c]) (t:=27)) (cs:=#[.int .i64 2]) (t:=3);simp only[World.size_alloc]at this;exact this
 obtain⟨b,hb⟩:∃b,decide ((2:Int)<rule)=b:=⟨_,rfl⟩
 rw[hb]at hn ⊢
 simp only[List.length_append]at hn
 have hlen:∀p,(whenP b [p]).length<=1:=by intro p;cases b<;>simp[whenP]
 have hl1:=hlen [40]
 have hmf:∀(fn:Fn) (first cap:Array Value) (w:World),(Instr.makeFunc fn first cap).run prog w=.ok (.func fn first cap) w:=fun _ _ _ _=>rfl
 clear h he hlen
 go_enter func132,ntmps132
 go_upto_region 15 with fail
 refine WFr.gen S0.out ?_
 intro w1 S1
 clear S0
 have F1:=S1.out.facts
 simp only[St.Facts,cellFacts,apartFacts,and_true]at F1
 go_wp2_with fail
 refine(WFr.alloc S1.out).call (A4 b [[40]] _ _ (WFr.alloc S1.out).wrt ((WFr.alloc S1.out).env H.out HE.out).hi (slAt_parts ((WFr.alloc S1.out).blk 0 rfl) rfl rfl (by decide)) (by simp) (by simp;omega)) ?_
 intro w2 S2
 have HX:Hid (ExClo wb w.heap.size (w.heap.size+1) w2 #[.int .i64 14,.string ⟨t.toArray⟩,.string ⟨n.toArray⟩,.int .i64 v.k,.int .i64 v.n,.string v.s,.slice a m c]):=⟨(S2.out.tail).blk 2 rfl,(S2.out.tail).blk 1 rfl,(S2.out.tail).off 2 rfl,(S2.out.tail).off 1 rfl⟩
 have S2':=Lib.hid S2.out.tail
 clear F1 S1 S2
 go_wp2_with fail
 refine S2'.out.call (C.out _ _ _ _ (by simp;omega) HX.out (S2'.out.old H.out) S2'.out.wrt (S2'.out.env H.out HE.out)) ?_
 intro w3 S3
 have F3:=S3.out.facts
 simp only[St.Facts,cellFacts,apartFacts,and_true]at F3
 clear S2' HX C
 go_wp2_with fail
 refine(WFr.alloc S3.out).call (A4 b [[41]] _ _ (WFr.alloc S3.out).wrt ((WFr.alloc S3.out).env H.out HE.out).hi (slAt_parts ((WFr.alloc S3.out).blk 0 rfl) rfl rfl (by decide)) (by simp) (by simp;omega)) ?_
 intro w4 S4
 go_wp2_with fail
 go_returns
 rw[<- List.append_assoc,<- List.append_assoc]
 exact S4.out.done
theorem Zw (t n:Bytes) (v:V) (a:Option Addr) (m c:Nat) (rule:Int) (body:List Bytes) (w:World) (h:Wrt base w wb xs) (he:Env base w) (hn:xs.length+(whenP (decide (3<rule)) [[40]]++body++whenP (decide (3<rule)) [[41]]).length+10<=1000000000)
 (C:Hid (∀(b3 b4:Nat) (W:World) (zs:List Bytes),zs.length+body.length+10<=1000000000->ExClo wb b3 b4 W #[.int .i64 15,.string ⟨t.toArray⟩,.string ⟨n.toArray⟩,.int .i64 v.k,.int .i64 v.n,.string v.s,.slice a m c]->Turn (base≤·) w W->Wrt base W wb zs->Env base W->Calls prog 193 #[.pointer (some ⟨b3,0,none⟩),.pointer (some ⟨b4,0,none⟩)] W (Puts base wb W (zs++body)))):
 Calls prog 132 #[.pointer (some ⟨wb,0,none⟩),.agg #[.int .i64 15,.string ⟨t.toArray⟩,.string ⟨n.toArray⟩,.int .i64 v.k,.int .i64 v.n,.string v.s,.slice a m c],.int .i64 rule] w (Puts base wb w (xs++(whenP (decide (3<rule)) [[40]]++body++whenP (decide (3<rule)) [[41]]))):=by
 have H:=Lib.hid h
 have HE:=Lib.hid he
 have S0:Hid (WFr base wb w (((w.alloc (.cells #[.pointer (some ⟨wb,0,none⟩)] 117)).alloc (.cells #[.int .i64 15,.string ⟨t.toArray⟩,.string ⟨n.toArray⟩,.int .i64 v.k,.int .i64 v.n,.string v.s,.slice a m c] 27)).alloc (.cells #[.int .i64 3] 3)) [(w.heap.size+1+1,#[.int .i64 3],3),(w.heap.size+1,#[.int .i64 15,.string ⟨t.toArray⟩,.string ⟨n.toArray⟩,.int .i64 v.k,.int .i64 v.n,.string v.s,.slice a m c],27),(w.heap.size,#[.pointer (some ⟨wb,0,none⟩)],117)] xs):=by
  have:=WFr.alloc (WFr.alloc (WFr.alloc (WFr.start h) (cs:=#[.pointer (some ⟨wb,0,none⟩)]) (t:=117)) (cs:=#[.int .i64 15,.string ⟨t.toArray⟩,.string ⟨n.toArray⟩,.int .i64 v.k,.int .i64 v.n,.string v.s,.slice a m c]) (t:=27)) (cs:=#[.int .i64 3]) (t:=3);simp only[World.size_alloc]at this;exact this
 obtain⟨b,hb⟩:∃b,decide ((3:Int)<rule)=b:=⟨_,rfl⟩
 rw[hb]at hn ⊢
 simp only[List.length_append]at hn
 have hlen:∀p,(whenP b [p]).length<=1:=by intro p;cases b<;>simp[whenP]
 have hl1:=hlen [40]
 have hmf:∀(fn:Fn) (first cap:Array Value) (w:World),(Instr.makeFunc fn first cap).run prog w=.ok (.func fn first cap) w:=fun _ _ _ _=>rfl
 clear h he hlen
 go_enter func132,ntmps132
 go_upto_region 18 with fail
 refine WFr.gen S0.out ?_
 intro w1 S1
 clear S0
 have F1:=S1.out.facts
 simp only[St.Facts,cellFacts,apartFacts,and_true]at F1
 go_wp2_with fail
 refine(WFr.alloc S1.out).call (A4 b [[40]] _ _ (WFr.alloc S1.out).wrt ((WFr.alloc S1.out).env H.out HE.out).hi (slAt_parts ((WFr.alloc S1.out).blk 0 rfl) rfl rfl (by decide)) (by simp) (by simp;omega)) ?_
 intro w2 S2
 have HX:Hid (ExClo wb w.heap.size (w.heap.size+1) w2 #[.int .i64 15,.string ⟨t.toArray⟩,.string ⟨n.toArray⟩,.int .i64 v.k,.int .i64 v.n,.string v.s,.slice a m c]):=⟨(S2.out.tail).blk 2 rfl,(S2.out.tail).blk 1 rfl,(S2.out.tail).off 2 rfl,(S2.out.tail).off 1 rfl⟩
 have S2':=Lib.hid S2.out.tail
 clear F1 S1 S2
 go_wp2_with fail
 refine S2'.out.call (C.out _ _ _ _ (by simp;omega) HX.out (S2'.out.old H.out) S2'.out.wrt (S2'.out.env H.out HE.out)) ?_
 intro w3 S3
 have F3:=S3.out.facts
 simp only[St.Facts,cellFacts,apartFacts,and_true]at F3
 clear S2' HX C
 go_wp2_with fail
 refine(WFr.alloc S3.out).call (A4 b [[41]] _ _ (WFr.alloc S3.out).wrt ((WFr.alloc S3.out).env H.out HE.out).hi (slAt_parts ((WFr.alloc S3.out).blk 0 rfl) rfl rfl (by decide)) (by simp) (by simp;omega)) ?_
 intro w4 S4
 go_wp2_with fail
 go_returns
 rw[<- List.append_assoc,<- List.append_assoc]
 exact S4.out.done
theorem Vo (op:Int) (h3:3<=op) (h13:op<=13) (hlv:levP op=3) (t n:Bytes) (v:V) (a:Option Addr) (m c:Nat) (rule:Int) (body:List Bytes) (w:World) (h:Wrt base w wb xs) (he:Env base w) (hn:xs.length+(whenP (decide (3<rule)) [[40]]++body++whenP (decide (3<rule)) [[41]]).length+10<=1000000000)
 (C:Hid (∀(b3 b4 bl bs bv:Nat) (W:World) (zs:List Bytes),zs.length+body.length+10<=1000000000->TwoClo wb b3 b4 bl bs bv 4 3 (signP op) W #[.int .i64 op,.string ⟨t.toArray⟩,.string ⟨n.toArray⟩,.int .i64 v.k,.int .i64 v.n,.string v.s,.slice a m c]->Turn (base≤·) w W->Wrt base W wb zs->Env base W->Calls prog 194 #[.pointer (some ⟨b3,0,none⟩),.pointer (some ⟨b4,0,none⟩),.pointer (some ⟨bl,0,none⟩),.pointer (some ⟨bs,0,none⟩),.pointer (some ⟨bv,0,none⟩)] W (Puts base wb W (zs++body)))):
 Calls prog 132 #[.pointer (some ⟨wb,0,none⟩),.agg #[.int .i64 op,.string ⟨t.toArray⟩,.string ⟨n.toArray⟩,.int .i64 v.k,.int .i64 v.n,.string v.s,.slice a m c],.int .i64 rule] w (Puts base wb w (xs++(whenP (decide (3<rule)) [[40]]++body++whenP (decide (3<rule)) [[41]]))):=by
 have H:=Lib.hid h
 have HE:=Lib.hid he
 have S0:Hid (WFr base wb w (((w.alloc (.cells #[.pointer (some ⟨wb,0,none⟩)] 117)).alloc (.cells #[.int .i64 op,.string ⟨t.toArray⟩,.string ⟨n.toArray⟩,.int .i64 v.k,.int .i64 v.n,.string v.s,.slice a m c] 27)).alloc (.cells #[.int .i64 6] 3)) [(w.heap.size+1+1,#[.int .i64 6],3),(w.heap.size+1,#[.int .i64 op,.string ⟨t.toArray⟩,.string ⟨n.toArray⟩,.int .i64 v.k,.int .i64 v.n,.string v.s,.slice a m c],27),(w.heap.size,#[.pointer (some ⟨wb,0,none⟩)],117)] xs):=by
  have:=WFr.alloc (WFr.alloc (WFr.alloc (WFr.start h) (cs:=#[.pointer (some ⟨wb,0,none⟩)]) (t:=117)) (cs:=#[.int .i64 op,.string ⟨t.toArray⟩,.string ⟨n.toArray⟩,.int .i64 v.k,.int .i64 v.n,.string v.s,.slice a m c]) (t:=27)) (cs:=#[.int .i64 6]) (t:=3);simp only[World.size_alloc]at this;exact this
 obtain⟨b,hb⟩:∃b,decide ((3:Int)<rule)=b:=⟨_,rfl⟩
 rw[hb]at hn ⊢
 simp only[List.length_append]at hn
 have hlen:∀p,(whenP b [p]).length<=1:=by intro p;cases b<;>simp[whenP]
 have hl1:=hlen [40]
 have hmf:∀(fn:Fn) (first cap:Array Value) (w:World),(Instr.makeFunc fn first cap).run prog w=.ok (.func fn first cap) w:=fun _ _ _ _=>rfl
 have k1:(op==1)=false:=beq_eq_false_iff_ne.2 (by omega)
 have k2:(op==2)=false:=beq_eq_false_iff_ne.2 (by omega)
 have k14:(op==14)=false:=beq_eq_false_iff_ne.2 (by omega)
 have k15:(op==15)=false:=beq_eq_false_iff_ne.2 (by omega)
 have CS:=Lib.hid (fun W (h:Env base W)=>Jp op W h)
 rw[hlv]at CS
 clear h he hlen
 go_enter func132,ntmps132
 go_wp2_with fail
 refine Calls.mono (CS.out _ (S0.out.env H.out HE.out)) ?_
 rintro e w1 ⟨rfl,hb1⟩
 have S1:=Lib.hid (S0.out.kept hb1)
 clear hb1 S0 CS k1 k2 k14 k15
 have F1:=S1.out.facts
 simp only[St.Facts,cellFacts,apartFacts,and_true]at F1
 generalize signP op=sg at *
 go_upto_region 8 with fail
 have S2h:WFr base wb w ((((w1.setCell ⟨w.heap.size+1+1,0,none⟩ (.int .i64 3)).alloc (.cells #[.string ⟨sg.toArray⟩] 9)).alloc (.cells #[.int .i64 4] 3))) [(w1.heap.size+1,#[.int .i64 4],3),(w1.heap.size,#[.string ⟨sg.toArray⟩],9),(w.heap.size+1+1,#[.int .i64 3],3),(w.heap.size+1,#[.int .i64 op,.string ⟨t.toArray⟩,.string ⟨n.toArray⟩,.int .i64 v.k,.int .i64 v.n,.string v.s,.slice a m c],27),(w.heap.size,#[.pointer (some ⟨wb,0,none⟩)],117)] xs:=by
  have:=WFr.alloc (WFr.alloc (WFr.set 0 (o:=0) (v:=.int .i64 3) S1.out rfl) (cs:=#[.string ⟨sg.toArray⟩]) (t:=9)) (cs:=#[.int .i64 4]) (t:=3);simp only[World.size_alloc,World.size_setCell,List.set_cons_zero,List.setIfInBounds_toArray]at this;exact this
 have S2:=Lib.hid S2h
 clear S2h S1 F1
 refine WFr.gen S2.out ?_
 intro w2 S3
 clear S2
 have F3:=S3.out.facts
 simp only[St.Facts,cellFacts,apartFacts,and_true]at F3
 go_wp2_with fail
 refine(WFr.alloc S3.out).call (A4 b [[40]] _ _ (WFr.alloc S3.out).wrt ((WFr.alloc S3.out).env H.out HE.out).hi (slAt_parts ((WFr.alloc S3.out).blk 0 rfl) rfl rfl (by decide)) (by simp) (by simp;omega)) ?_
 intro w4 S4
 have S4':=Lib.hid S4.out.tail
 have HX:Hid (TwoClo wb (w.heap.size) (w.heap.size+1) (w1.heap.size+1) w1.heap.size (w.heap.size+1+1) 4 3 sg w4 #[.int .i64 op,.string ⟨t.toArray⟩,.string ⟨n.toArray⟩,.int .i64 v.k,.int .i64 v.n,.string v.s,.slice a m c]):=⟨⟨(S4'.out).blk 4 rfl,(S4'.out).blk 3 rfl,(S4'.out).off 4 rfl,(S4'.out).off 3 rfl⟩,(S4'.out).blk 0 rfl,(S4'.out).blk 1 rfl,(S4'.out).blk 2 rfl,(S4'.out).off 0 rfl,(S4'.out).off 1 rfl,(S4'.out).off 2 rfl⟩
 clear F3 S3 S4
 go_wp2_with fail
 refine S4'.out.call (C.out _ _ _ _ _ _ _ (by simp;omega) HX.out (S4'.out.old H.out) S4'.out.wrt (S4'.out.env H.out HE.out)) ?_
 intro w5 S5
 have F5:=S5.out.facts
 simp only[St.Facts,cellFacts,apartFacts,and_true]at F5
 clear S4' HX C
 go_wp2_with fail
 refine(WFr.alloc S5.out).call (A4 b [[41]] _ _ (WFr.alloc S5.out).wrt ((WFr.alloc S5.out).env H.out HE.out).hi (slAt_parts ((WFr.alloc S5.out).blk 0 rfl) rfl rfl (by decide)) (by simp) (by simp;omega)) ?_
 intro w6 S6
 go_wp2_with fail
 go_returns
 rw[<- List.append_assoc,<- List.append_assoc]
 exact S6.out.done
theorem Vn (op:Int) (h3:3<=op) (h13:op<=13) (lv:Int) (hlv:levP op=lv) (hne:lv≠3) (t n:Bytes) (v:V) (a:Option Addr) (m c:Nat) (rule:Int) (body:List Bytes) (w:World) (h:Wrt base w wb xs) (he:Env base w) (hn:xs.length+(whenP (decide (lv<rule)) [[40]]++body++whenP (decide (lv<rule)) [[41]]).length+10<=1000000000)
 (C:Hid (∀(b3 b4 bl bs bv:Nat) (W:World) (zs:List Bytes),zs.length+body.length+10<=1000000000->TwoClo wb b3 b4 bl bs bv lv lv (signP op) W #[.int .i64 op,.string ⟨t.toArray⟩,.string ⟨n.toArray⟩,.int .i64 v.k,.int .i64 v.n,.string v.s,.slice a m c]->Turn (base≤·) w W->Wrt base W wb zs->Env base W->Calls prog 194 #[.pointer (some ⟨b3,0,none⟩),.pointer (some ⟨b4,0,none⟩),.pointer (some ⟨bl,0,none⟩),.pointer (some ⟨bs,0,none⟩),.pointer (some ⟨bv,0,none⟩)] W (Puts base wb W (zs++body)))):
 Calls prog 132 #[.pointer (some ⟨wb,0,none⟩),.agg #[.int .i64 op,.string ⟨t.toArray⟩,.string ⟨n.toArray⟩,.int .i64 v.k,.int .i64 v.n,.string v.s,.slice a m c],.int .i64 rule] w (Puts base wb w (xs++(whenP (decide (lv<rule)) [[40]]++body++whenP (decide (lv<rule)) [[41]]))):=by
 have H:=Lib.hid h
 have HE:=Lib.hid he
 have S0:Hid (WFr base wb w (((w.alloc (.cells #[.pointer (some ⟨wb,0,none⟩)] 117)).alloc (.cells #[.int .i64 op,.string ⟨t.toArray⟩,.string ⟨n.toArray⟩,.int .i64 v.k,.int .i64 v.n,.string v.s,.slice a m c] 27)).alloc (.cells #[.int .i64 6] 3)) [(w.heap.size+1+1,#[.int .i64 6],3),(w.heap.size+1,#[.int .i64 op,.string ⟨t.toArray⟩,.string ⟨n.toArray⟩,.int .i64 v.k,.int .i64 v.n,.string v.s,.slice a m c],27),(w.heap.size,#[.pointer (some ⟨wb,0,none⟩)],117)] xs):=by
  have:=WFr.alloc (WFr.alloc (WFr.alloc (WFr.start h) (cs:=#[.pointer (some ⟨wb,0,none⟩)]) (t:=117)) (cs:=#[.int .i64 op,.string ⟨t.toArray⟩,.string ⟨n.toArray⟩,.int .i64 v.k,.int .i64 v.n,.string v.s,.slice a m c]) (t:=27)) (cs:=#[.int .i64 6]) (t:=3);simp only[World.size_alloc]at this;exact this
 obtain⟨b,hb⟩:∃b,decide ((lv:Int)<rule)=b:=⟨_,rfl⟩
 rw[hb]at hn ⊢
 simp only[List.length_append]at hn
 have hlen:∀p,(whenP b [p]).length<=1:=by intro p;cases b<;>simp[whenP]
 have hl1:=hlen [40]
 have hmf:∀(fn:Fn) (first cap:Array Value) (w:World),(Instr.makeFunc fn first cap).run prog w=.ok (.func fn first cap) w:=fun _ _ _ _=>rfl
 have k1:(op==1)=false:=beq_eq_false_iff_ne.2 (by omega)
 have k2:(op==2)=false:=beq_eq_false_iff_ne.2 (by omega)
 have k14:(op==14)=false:=beq_eq_false_iff_ne.2 (by omega)
 have k15:(op==15)=false:=beq_eq_false_iff_ne.2 (by omega)
 have kl:(lv==3)=false:=beq_eq_false_iff_ne.2 hne
 have CS:=Lib.hid (fun W (h:Env base W)=>Jp op W h)
 rw[hlv]at CS
 clear h he hlen
 go_enter func132,ntmps132
 go_wp2_with fail
 refine Calls.mono (CS.out _ (S0.out.env H.out HE.out)) ?_
 rintro e w1 ⟨rfl,hb1⟩
 have S1:=Lib.hid (S0.out.kept hb1)
 clear hb1 S0 CS k1 k2 k14 k15
 have F1:=S1.out.facts
 simp only[St.Facts,cellFacts,apartFacts,and_true]at F1
 generalize signP op=sg at *
 go_upto_region 8 with fail
 have S2h:WFr base wb w ((((w1.setCell ⟨w.heap.size+1+1,0,none⟩ (.int .i64 lv)).alloc (.cells #[.string ⟨sg.toArray⟩] 9)).alloc (.cells #[.int .i64 lv] 3))) [(w1.heap.size+1,#[.int .i64 lv],3),(w1.heap.size,#[.string ⟨sg.toArray⟩],9),(w.heap.size+1+1,#[.int .i64 lv],3),(w.heap.size+1,#[.int .i64 op,.string ⟨t.toArray⟩,.string ⟨n.toArray⟩,.int .i64 v.k,.int .i64 v.n,.string v.s,.slice a m c],27),(w.heap.size,#[.pointer (some ⟨wb,0,none⟩)],117)] xs:=by
  have:=WFr.alloc (WFr.alloc (WFr.set 0 (o:=0) (v:=.int .i64 lv) S1.out rfl) (cs:=#[.string ⟨sg.toArray⟩]) (t:=9)) (cs:=#[.int .i64 lv]) (t:=3);simp only[World.size_alloc,World.size_setCell,List.set_cons_zero,List.setIfInBounds_toArray]at this;exact this
 have S2:=Lib.hid S2h
 clear S2h S1 F1
 refine WFr.gen S2.out ?_
 intro w2 S3
 clear S2
 have F3:=S3.out.facts
 simp only[St.Facts,cellFacts,apartFacts,and_true]at F3
 go_wp2_with fail
 refine(WFr.alloc S3.out).call (A4 b [[40]] _ _ (WFr.alloc S3.out).wrt ((WFr.alloc S3.out).env H.out HE.out).hi (slAt_parts ((WFr.alloc S3.out).blk 0 rfl) rfl rfl (by decide)) (by simp) (by simp;omega)) ?_
 intro w4 S4
 have S4':=Lib.hid S4.out.tail
 have HX:Hid (TwoClo wb (w.heap.size) (w.heap.size+1) (w1.heap.size+1) w1.heap.size (w.heap.size+1+1) lv lv sg w4 #[.int .i64 op,.string ⟨t.toArray⟩,.string ⟨n.toArray⟩,.int .i64 v.k,.int .i64 v.n,.string v.s,.slice a m c]):=⟨⟨(S4'.out).blk 4 rfl,(S4'.out).blk 3 rfl,(S4'.out).off 4 rfl,(S4'.out).off 3 rfl⟩,(S4'.out).blk 0 rfl,(S4'.out).blk 1 rfl,(S4'.out).blk 2 rfl,(S4'.out).off 0 rfl,(S4'.out).off 1 rfl,(S4'.out).off 2 rfl⟩
 clear F3 S3 S4
 go_wp2_with fail
 refine S4'.out.call (C.out _ _ _ _ _ _ _ (by simp;omega) HX.out (S4'.out.old H.out) S4'.out.wrt (S4'.out.env H.out HE.out)) ?_
 intro w5 S5
 have F5:=S5.out.facts
 simp only[St.Facts,cellFacts,apartFacts,and_true]at F5
 clear S4' HX C
 go_wp2_with fail
 refine(WFr.alloc S5.out).call (A4 b [[41]] _ _ (WFr.alloc S5.out).wrt ((WFr.alloc S5.out).env H.out HE.out).hi (slAt_parts ((WFr.alloc S5.out).blk 0 rfl) rfl rfl (by decide)) (by simp) (by simp;omega)) ?_
 intro w6 S6
 go_wp2_with fail
 go_returns
 rw[<- List.append_assoc,<- List.append_assoc]
 exact S6.out.done
end Go.Proofs.YtjmmbebkbkgefaaGreatDoor
namespace Go.Proofs.YtjmmbebkbkgefaaGreatDoor
open Go.RowKit Go.Sort Tryz
variable {base wb:Nat} {w0 w w' w2:World} {L:List Blk} {xs ys zs:List Bytes}
theorem Zz (op:Int) (t n:Bytes) (v:V) (args:List Ex) (rule:Int):exPr (.mk op t n v args) rule=whenP (decide (exLev op<rule)) [[40]]++bare (.mk op t n v args)++whenP (decide (exLev op<rule)) [[41]]:=by simp only[exPr,bare]
theorem bf {op:Int} (h3:3<=op) (h13:op<=13):exLev op=levP op:=by
 unfold exLev;rw[if_neg (by omega),if_neg (by omega),if_neg (by omega)]
theorem Vp (base wb:Nat):∀e:Ex,ExprC base wb e:=by
 refine Ex.ind fun op t n v args ih=>?_;intro rule xs cs w h0 h6 hin hf h he hn;obtain⟨v0,rfl,hsl⟩:=A6 hin;obtain⟨ad,ac,rfl⟩:=(Az hsl).slice;show Calls prog 132 #[.pointer (some ⟨wb,0,none⟩),.agg #[.int .i64 op,.string ⟨t.toArray⟩,.string ⟨n.toArray⟩,.int .i64 v.k,.int .i64 v.n,.string v.s,.slice ad args.length ac],.int .i64 rule] w _;have heq:=Zz op t n v args rule;have hlen:(bare (.mk op t n v args)).length<=(exPr (.mk op t n v args) rule).length:=by rw[heq];simp only[List.length_append];omega
 have HN1:=congrArg List.length heq;rw[heq]at hn ⊢;have mv:∀{W:World},Turn (base≤·) w W->ExSl (·<base) W (.slice ad args.length ac) args:=fun ht=>hsl.turned ht (fun b hb hk=>by omega);rcases M8 hf with⟨rfl,rfl,_,_,_⟩|⟨rfl,rfl,hv,_,_⟩|⟨a,hop,rfl,hfa,_,_,_⟩|⟨a,b,h3,h13,rfl,hfa,hfb,_,_,_⟩
 ·refine bn t n v ad _ ac rule _ w h he (hn) (fun b3 b4 W zs hz hc ht hw hE=>?_);rw[Y4];exact dg b3 b4 1 t n v ad _ ac W hc hw hE (by omega)
 ·refine bm t n v ad _ ac rule _ w h he (hn) (fun b3 b4 W zs hz hc ht hw hE=>?_);rw[Y2];exact c163 b3 b4 2 t n v ad _ ac W hc hw hE hv (by omega)
 ·rcases hop with rfl|rfl
  ·refine Zx t n v ad _ ac rule _ w h he (hn) (fun b3 b4 W zs hz hc ht hw hE=>?_);rw[Pq];exact df (ih a (by simp)) b3 b4 14 t n v ad ac W hc (mv ht) hfa hw hE (by rw[Pq,List.length_cons]at hz;omega)
  ·refine Zw t n v ad _ ac rule _ w h he (hn) (fun b3 b4 W zs hz hc ht hw hE=>?_);rw[Wl]at hz ⊢;exact de (ih a (by simp)) b3 b4 15 t n v ad ac W hc (mv ht) hfa hw hE (by simp only[List.length_append,List.length_cons,List.length_nil]at hz;omega)
 ·have hof:=Xq h3 h13;have hb2:=Y3 h3 h13 t n v a b;rw[bf h3 h13]at hn ⊢;by_cases hlv:levP op=3
  ·rw[hlv]at hn ⊢;refine Vo op h3 h13 hlv t n v ad _ ac rule _ w h he (hn) (fun b3 b4 bl bs bv W zs hz hc ht hw hE=>?_);rw[hb2,if_pos hlv,hlv]at hz ⊢;exact cw (ih a (by simp)) (ih b (by simp)) b3 b4 bl bs bv 4 3 (signP op) op t n v ad ac W hc (by decide) (by decide) (by decide) (by decide) (mv ht) hfa hfb hw hE (by simp only[List.length_append,List.length_cons,List.length_nil]at hz;omega)
  ·refine Vn op h3 h13 (levP op) rfl hlv t n v ad _ ac rule _ w h he (hn) (fun b3 b4 bl bs bv W zs hz hc ht hw hE=>?_);rw[hb2,if_neg hlv]at hz ⊢;exact cw (ih a (by simp)) (ih b (by simp)) b3 b4 bl bs bv (levP op) (levP op) (signP op) op t n v ad ac W hc (by omega) (by omega) (by omega) (by omega) (mv ht) hfa hfb hw hE (by simp only[List.length_append,List.length_cons,List.length_nil]at hz;omega)
theorem Dv {Q:Nat->Prop} {w:World} {e:Ex} {cs:List Value} (h:ExIn Q w e cs):∃a c,cs=[.int .i64 e.op,.string ⟨e.table.toArray⟩,.string ⟨e.name.toArray⟩,.int .i64 e.val.k,.int .i64 e.val.n,.string e.val.s,.slice a e.args.length c]:=by
 obtain⟨op,t,n,v,args⟩:=e;obtain⟨v0,rfl,hsl⟩:=A6 h;obtain⟨ad,ac,rfl⟩:=(Az hsl).slice;exact⟨ad,ac,rfl⟩
theorem Hj (e:Ex) (cs:List Value) (w:World) (hin:ExIn (·<base) w e cs) (hf:e.formed=true) (h:Wrt base w wb xs) (he:Env base w) (hn:xs.length+(exPr e 0).length+10<=1000000000):
 Calls prog 65 #[.pointer (some ⟨wb,0,none⟩),.agg cs.toArray] w (Puts base wb w (xs++exPr e 0)):=by
 have S0:=Lib.hid (WFr.start h)
 have H:=Lib.hid h
 have HE:=Lib.hid he
 have C:Hid (∀W,Turn (base≤·) w W->Wrt base W wb xs->Env base W->Calls prog 132 #[.pointer (some ⟨wb,0,none⟩),.agg cs.toArray,.int .i64 0] W (Puts base wb W (xs++exPr e 0))):=
  fun W ht hw hE=>Vp base wb e 0 xs cs W (by decide) (by decide) (hin.turned ht (fun b hb hk=>by omega)) hf hw hE hn
 obtain⟨a,c,rfl⟩:=Dv hin
 generalize exPr e 0=ps at *
 generalize e.op=op at *
 generalize e.table=t at *
 generalize e.name=n at *
 generalize e.val=v at *
 generalize e.args.length=m at *
 clear h he hin hf
 show Calls prog 65 #[.pointer (some ⟨wb,0,none⟩),.agg #[.int .i64 op,.string ⟨t.toArray⟩,.string ⟨n.toArray⟩,.int .i64 v.k,.int .i64 v.n,.string v.s,.slice a m c]] w _
 go_enter func65,ntmps65
 go_wp2_with fail
 refine(WFr.alloc S0.out).call (C.out _ ((WFr.alloc S0.out).old H.out) (WFr.alloc S0.out).wrt ((WFr.alloc S0.out).env H.out HE.out)) ?_
 intro w1 S1
 go_wp2_with fail
 go_returns
 exact S1.out.done
theorem whereW_any (e:Ex) (cs:List Value) (w:World) (hin:ExIn (·<base) w e cs) (hf:e.isZero=true\/e.formed=true) (h:Wrt base w wb xs) (he:Env base w) (hn:xs.length+(whereP e).length+10<=1000000000):
 Calls prog 66 #[.pointer (some ⟨wb,0,none⟩),.agg cs.toArray] w (Puts base wb w (xs++whereP e)):=by
 have S0:=Lib.hid (WFr.start h)
 have H:=Lib.hid h
 have HE:=Lib.hid he
 have C1:Hid (∀W,Turn (base≤·) w W->Calls prog 42 #[.agg cs.toArray] W (Says (.bool e.isZero) W)):=fun W ht=>El (·<base) e cs W (hin.turned ht (fun b hb hk=>by omega))
 have C:Hid (e.isZero=false->∀W zs,zs.length<=xs.length+1->Turn (base≤·) w W->Wrt base W wb zs->Env base W->Calls prog 65 #[.pointer (some ⟨wb,0,none⟩),.agg cs.toArray] W (Puts base wb W (zs++exPr e 0))):=
  fun hz W zs hl ht hw hE=>Hj e cs W (hin.turned ht (fun b hb hk=>by omega)) (by rcases hf with hf|hf;rw[hz]at hf;cases hf;exact hf) hw hE (by
   unfold whereP at hn;rw[hz]at hn;simp only[Bool.false_eq_true,if_false,List.length_cons]at hn;omega)
 have HW:Hid (whereP e=if e.isZero then[]else[119,104,101,114,101]::exPr e 0):=rfl
 have hn2:xs.length+10<=1000000000:=by omega
 obtain⟨a,c,rfl⟩:=Dv hin
 generalize whereP e=wp at *
 generalize exPr e 0=ps at *
 generalize e.isZero=z at *
 generalize e.op=op at *
 generalize e.table=t at *
 generalize e.name=n at *
 generalize e.val=v at *
 generalize e.args.length=m at *
 clear h he hin hf hn
 show Calls prog 66 #[.pointer (some ⟨wb,0,none⟩),.agg #[.int .i64 op,.string ⟨t.toArray⟩,.string ⟨n.toArray⟩,.int .i64 v.k,.int .i64 v.n,.string v.s,.slice a m c]] w _
 go_enter func66,ntmps66
 go_wp2_with fail
 refine Calls.mono (C1.out _ ((WFr.alloc S0.out).old H.out)) ?_
 rintro e w1 ⟨rfl,hb1⟩
 have S1:=Lib.hid ((WFr.alloc S0.out).kept hb1)
 clear hb1 S0 C1
 have F1:=S1.out.facts
 simp only[St.Facts,cellFacts,apartFacts,and_true]at F1
 cases z with
 | true=>
  have HR:Hid (wp=[]):=HW.out;clear C;go_wp2_with fail;go_returns;rw[HR.out,List.append_nil];exact S1.out.done
 | false=>
  have HR:Hid (wp=[119,104,101,114,101]::ps):=HW.out;have CC:=Lib.hid (C.out rfl);clear C;go_wp2_with fail;refine(WFr.alloc S1.out).call (put_any [[119,104,101,114,101]] _ _ (WFr.alloc S1.out).wrt ((WFr.alloc S1.out).env H.out HE.out).hi (slAt_parts ((WFr.alloc S1.out).blk 0 rfl) rfl rfl (by decide)) (by simp) (by simp;omega)) ?_;intro w2 S2;have F2:=S2.out.tail.facts;simp only[St.Facts,cellFacts,apartFacts,and_true]at F2;clear F1 S1;go_wp2_with fail;refine S2.out.call (CC.out _ _ (by simp) (S2.out.old H.out) S2.out.wrt (S2.out.env H.out HE.out)) ?_;intro w3 S3;go_wp2_with fail;go_returns;rw[HR.out];have:=S3.out.done;simpa using this
end Go.Proofs.YtjmmbebkbkgefaaGreatDoor
namespace Go.Proofs.YtjmmbebkbkgefaaGreatDoor
open Go.RowKit Go.Sort Tryz
variable {base wb:Nat} {w0 w w' w2:World} {L:List Blk} {xs ys zs:List Bytes}
theorem WFr.drop (h:WFr base wb w0 w L xs):WFr base wb w0 w [] xs:=⟨h.wr,⟨h.st.turn,by simp,by simp⟩,by simp,by simp⟩
structure QAt (wb qb:Nat) (w:World):Prop where
 h:w.heap[qb]?=some (.cells #[.pointer (some ⟨wb,0,none⟩)] 117 (0,0))
 n:¬WOwn wb w qb
theorem QAt.went {qb:Nat} (h:QAt wb qb w) (k:Wrote base wb w w' ys):QAt wb qb w':=⟨(Bi h.h h.n k).1,(Bi h.h h.n k).2⟩
theorem QAt.cell {qb:Nat} (h:QAt wb qb w):w.cell? ⟨qb,0,none⟩=some (.pointer (some ⟨wb,0,none⟩)):=by
 have h1:=h.h;simp only[World.cell?,h1];rfl
theorem Rr {α:Type} (f:α->List Bytes) (l:List α) (a:α):eachP f (l++[a])=eachP f l++(whenP (decide (0<l.length)) [[44]]++f a):=by
 cases l with
 | nil=>simp[eachP,whenP]
 | cons b l=>simp[eachP,whenP]
theorem Gs {α:Type} (f:α->List Bytes) {l:List α} {k:Nat} {a:α} (h:l[k]?=some a):eachP f (l.take (k+1))=eachP f (l.take k)++(whenP (decide (0<k)) [[44]]++f a):=by
 obtain⟨hk,rfl⟩:=List.getElem?_eq_some_iff.1 h;rw[List.take_succ_eq_append_getElem hk,Rr,List.length_take,Nat.min_eq_left (Nat.le_of_lt hk)]
theorem Kq {α:Type} (f:α->List Bytes) (l:List α) (k:Nat):(eachP f (l.take k)).length<=(eachP f l).length:=by
 cases l with
 | nil=>simp[eachP]
 | cons b l=>
  cases k with
  | zero=>simp[eachP]
  | succ k=>
   simp only[List.take_succ_cons,eachP,List.length_append];have:((l.take k).flatMap fun y=>[44]::f y).length<=(l.flatMap fun y=>[44]::f y).length:=by
    conv=>rhs;rw[<- List.take_append_drop k l,List.flatMap_append,List.length_append]
    omega
   omega
theorem Ru (f:Pk->List Bytes) (l:List Pk) (v:Value) (w:World) (hv:RSl pkE (·<base) w v l) (h:Wrt base w wb xs) (he:Env base w) (hl:l.length<=1000000) (hn:xs.length+(eachP f l).length+10<=1000000000)
 (HG:Hid (∀W zs a cs,a∈l->pkE.In (·<base) W a cs->Wrt base W wb zs->Env base W->zs.length+(f a).length+10<=1000000000->Calls prog 134 #[.pointer (some ⟨wb,0,none⟩),pkE.val cs] W (Puts base wb W (zs++f a)))):
 Calls prog 133 #[.pointer (some ⟨wb,0,none⟩),v,.func (.func 134) #[.pointer (some ⟨wb,0,none⟩)] #[]] w (Puts base wb w (xs++eachP f l)):=by
 have H:=Lib.hid h
 have HE:=Lib.hid he
 skip
 have HN:=Lib.hid hn
 obtain⟨a0,cap0,rfl⟩:=hv.slice
 have HV:=Lib.hid hv
 have hcall:∀args w,(callFunc 134 args).run prog w=.ok (.enter 134 args) w:=enters_of func134 (by kernel_rfl) rfl
 clear h he hv hn
 go_enter func133,ntmps133
 go_wp2_with fail
 go_loopw [6,7,10] (fun _ _ i wr=>∃k:Nat,k<=l.length/\i=.int .i64 k/\Hid (WFr base wb w wr [] (xs++eachP f (l.take k)))) (fun _ _ i _=>l.length - (intOf i).toNat)
 case atStart=>exact⟨0,by omega,rfl,by show WFr _ _ _ _ _ _;simpa[eachP]using WFr.start H.out⟩
 case round=>
  obtain⟨k,hk,rfl,S1⟩:=hrel;by_cases hlt:k<l.length
  ·obtain⟨a,hx⟩:∃x,l[k]?=some x:=⟨l[k],by simp[hlt]⟩;have hv1:RSl pkE (·<base) wr (.slice a0 l.length cap0) l:=Ad (by decide) (fun b hb hq=>⟨hq,(S1.out.old H.out).block b hb (by omega)⟩) HV.out;obtain⟨b,o,cap,cs,hbo,hin,hat⟩:=hv1.at hx;injection hbo with e1 _ e2;subst e1;subst e2;have hst:=Gs f hx;have hle:=Kq f l (k+1);rw[hst]at hle;simp only[List.length_append]at hle;have HST:=Lib.hid hst;have HIN:Hid (pkE.In (·<base) wr a cs):=hin;have HM:=Lib.hid (List.mem_of_getElem? hx);obtain⟨q,hq⟩:∃q,decide (0<k)=q:=⟨_,rfl⟩;have hqi:decide ((0:Int)<(k:Int))=q:=by rw[<- hq];simp
   have hwl:(whenP q [[44]]).length<=1:=by cases q<;>simp[whenP]
   rw[hq]at HST hle;have hn2:=HN.out;obtain⟨fa,hfa⟩:∃fa,f a=fa:=⟨_,rfl⟩;rw[hfa]at HST hle;have C1:Hid (∀W,WFr base wb w W [] (xs++eachP f (l.take k)++whenP q [[44]])->pkE.In (·<base) W a cs->Calls prog 134 #[.pointer (some ⟨wb,0,none⟩),pkE.val cs] W (Puts base wb W (xs++eachP f (l.take k)++whenP q [[44]]++fa))):=by
    intro W hW hiW;have:=HG.out W _ a cs HM.out hiW hW.wrt (hW.env H.out HE.out) (by rw[hfa];simp only[List.length_append];omega);rw[hfa]at this;exact this
   clear hfa HM hst;have hin0:=hin;obtain⟨fn,⟨op,t,n,v,args⟩⟩:=a;obtain⟨c0,rfl,ad0,acs,rfl,⟨ad,ac,rfl,_⟩,_⟩:=hin;have x0:=hat 0 _ rfl;have x1:=hat 1 _ rfl;have x2:=hat 2 _ rfl;have x3:=hat 3 _ rfl;have x4:=hat 4 _ rfl;have x5:=hat 5 _ rfl;have x6:=hat 6 _ rfl;have x7:=hat 7 _ rfl;simp only[show pkE.k=8 from rfl,Nat.add_zero]at x0 x1 x2 x3 x4 x5 x6 x7;change Hid (∀W,WFr base wb w W [] (xs++eachP f (l.take k)++whenP q [[44]])->pkE.In (·<base) W _ _->Calls prog 134 #[.pointer (some ⟨wb,0,none⟩),.agg #[.int .i64 fn,.int .i64 op,.string ⟨t.toArray⟩,.string ⟨n.toArray⟩,.int .i64 v.k,.int .i64 v.n,.string v.s,.slice ad args.length ac]] W (Puts base wb W (xs++eachP f (l.take k)++whenP q [[44]]++fa)))at C1;clear hx hat hv1 hin0;generalize hyk:xs++eachP f (l.take k)=yk at *;have hyl:yk.length=xs.length+(eachP f (l.take k)).length:=by rw[<- hyk,List.length_append]
   go_wp2_with fail;have S1c:Hid (WFr base wb w ((wr.alloc (.cells #[.int .i64 fn,.int .i64 op,.string ⟨t.toArray⟩,.string ⟨n.toArray⟩,.int .i64 v.k,.int .i64 v.n,.string v.s,.slice ad args.length ac] 70)).alloc (.cells #[.string ⟨#[44]⟩] 9)) [(wr.heap.size+1,#[.string ⟨#[44]⟩],9),(wr.heap.size,#[.int .i64 fn,.int .i64 op,.string ⟨t.toArray⟩,.string ⟨n.toArray⟩,.int .i64 v.k,.int .i64 v.n,.string v.s,.slice ad args.length ac],70)] yk):=by
    have:=WFr.alloc (WFr.alloc S1.out (cs:=#[.int .i64 fn,.int .i64 op,.string ⟨t.toArray⟩,.string ⟨n.toArray⟩,.int .i64 v.k,.int .i64 v.n,.string v.s,.slice ad args.length ac]) (t:=70)) (cs:=#[.string ⟨#[44]⟩]) (t:=9);try simp only[World.size_alloc]at this
    exact this
   refine S1c.out.call (A4 q [[44]] _ _ S1c.out.wrt (S1c.out.env H.out HE.out).hi (slAt_parts (S1c.out.blk 0 rfl) rfl rfl (by decide)) (by simp) (by simp;omega)) ?_;intro w2 S2;have HI2:Hid (pkE.In (·<base) w2 _ _):=pkE.move (fun b hb hq=>⟨hq,by
    have hlt:b<w.heap.size:=Nat.lt_of_lt_of_le hq HE.out.hi;rw[(S2.out.old H.out).block b hlt (by omega),(S1.out.old H.out).block b hlt (by omega)]⟩) HIN.out
   have F2:=S2.out.tail.facts;simp only[St.Facts,cellFacts,apartFacts,and_true]at F2;clear x0 x1 x2 x3 x4 x5 x6 x7 S1 S1c HIN;go_wp2_with fail;refine S2.out.drop.call (C1.out _ S2.out.drop HI2.out) ?_;intro w3 S3;clear S2 HI2 C1 F2;go_wp2_with fail;go_roundw
   case rel=>exact⟨k+1,by omega,by go_num,by show WFr _ _ _ _ _ _;rw[HST.out,<- List.append_assoc,<- List.append_assoc,hyk];exact S3.out⟩
   case measure=>simp[intOf];omega
  ·obtain rfl:k=l.length:=by omega
   go_wp2_with fail;go_returns;have:=S1.out.done;rw[List.take_length]at this;exact this
theorem Rt (f:Ex->List Bytes) (l:List Ex) (v:Value) (w:World) (hv:RSl exE (·<base) w v l) (h:Wrt base w wb xs) (he:Env base w) (hl:l.length<=1000000) (hn:xs.length+(eachP f l).length+10<=1000000000)
 (HG:Hid (∀W zs a cs,a∈l->exE.In (·<base) W a cs->Wrt base W wb zs->Env base W->zs.length+(f a).length+10<=1000000000->Calls prog 65 #[.pointer (some ⟨wb,0,none⟩),exE.val cs] W (Puts base wb W (zs++f a)))):
 Calls prog 135 #[.pointer (some ⟨wb,0,none⟩),v,.func (.func 65) #[.pointer (some ⟨wb,0,none⟩)] #[]] w (Puts base wb w (xs++eachP f l)):=by
 have H:=Lib.hid h
 have HE:=Lib.hid he
 skip
 have HN:=Lib.hid hn
 obtain⟨a0,cap0,rfl⟩:=hv.slice
 have HV:=Lib.hid hv
 have hcall:∀args w,(callFunc 65 args).run prog w=.ok (.enter 65 args) w:=enters_of func65 (by kernel_rfl) rfl
 clear h he hv hn
 go_enter func135,ntmps135
 go_wp2_with fail
 go_loopw [6,7,10] (fun _ _ i wr=>∃k:Nat,k<=l.length/\i=.int .i64 k/\Hid (WFr base wb w wr [] (xs++eachP f (l.take k)))) (fun _ _ i _=>l.length - (intOf i).toNat)
 case atStart=>exact⟨0,by omega,rfl,by show WFr _ _ _ _ _ _;simpa[eachP]using WFr.start H.out⟩
 case round=>
  obtain⟨k,hk,rfl,S1⟩:=hrel;by_cases hlt:k<l.length
  ·obtain⟨a,hx⟩:∃x,l[k]?=some x:=⟨l[k],by simp[hlt]⟩;have hv1:RSl exE (·<base) wr (.slice a0 l.length cap0) l:=Ad (by decide) (fun b hb hq=>⟨hq,(S1.out.old H.out).block b hb (by omega)⟩) HV.out;obtain⟨b,o,cap,cs,hbo,hin,hat⟩:=hv1.at hx;injection hbo with e1 _ e2;subst e1;subst e2;have hst:=Gs f hx;have hle:=Kq f l (k+1);rw[hst]at hle;simp only[List.length_append]at hle;have HST:=Lib.hid hst;have HIN:Hid (exE.In (·<base) wr a cs):=hin;have HM:=Lib.hid (List.mem_of_getElem? hx);obtain⟨q,hq⟩:∃q,decide (0<k)=q:=⟨_,rfl⟩;have hqi:decide ((0:Int)<(k:Int))=q:=by rw[<- hq];simp
   have hwl:(whenP q [[44]]).length<=1:=by cases q<;>simp[whenP]
   rw[hq]at HST hle;have hn2:=HN.out;obtain⟨fa,hfa⟩:∃fa,f a=fa:=⟨_,rfl⟩;rw[hfa]at HST hle;have C1:Hid (∀W,WFr base wb w W [] (xs++eachP f (l.take k)++whenP q [[44]])->exE.In (·<base) W a cs->Calls prog 65 #[.pointer (some ⟨wb,0,none⟩),exE.val cs] W (Puts base wb W (xs++eachP f (l.take k)++whenP q [[44]]++fa))):=by
    intro W hW hiW;have:=HG.out W _ a cs HM.out hiW hW.wrt (hW.env H.out HE.out) (by rw[hfa];simp only[List.length_append];omega);rw[hfa]at this;exact this
   clear hfa HM hst;have hin0:=hin;obtain⟨op,t,n,v,args⟩:=a;obtain⟨ad0,acs,rfl,⟨ad,ac,rfl,_⟩,_⟩:=hin;have x0:=hat 0 _ rfl;have x1:=hat 1 _ rfl;have x2:=hat 2 _ rfl;have x3:=hat 3 _ rfl;have x4:=hat 4 _ rfl;have x5:=hat 5 _ rfl;have x6:=hat 6 _ rfl;simp only[show exE.k=7 from rfl,Nat.add_zero]at x0 x1 x2 x3 x4 x5 x6;change Hid (∀W,WFr base wb w W [] (xs++eachP f (l.take k)++whenP q [[44]])->exE.In (·<base) W _ _->Calls prog 65 #[.pointer (some ⟨wb,0,none⟩),.agg #[.int .i64 op,.string ⟨t.toArray⟩,.string ⟨n.toArray⟩,.int .i64 v.k,.int .i64 v.n,.string v.s,.slice ad args.length ac]] W (Puts base wb W (xs++eachP f (l.take k)++whenP q [[44]]++fa)))at C1;clear hx hat hv1 hin0;generalize hyk:xs++eachP f (l.take k)=yk at *;have hyl:yk.length=xs.length+(eachP f (l.take k)).length:=by rw[<- hyk,List.length_append]
   go_wp2_with fail;have S1c:Hid (WFr base wb w ((wr.alloc (.cells #[.int .i64 op,.string ⟨t.toArray⟩,.string ⟨n.toArray⟩,.int .i64 v.k,.int .i64 v.n,.string v.s,.slice ad args.length ac] 27)).alloc (.cells #[.string ⟨#[44]⟩] 9)) [(wr.heap.size+1,#[.string ⟨#[44]⟩],9),(wr.heap.size,#[.int .i64 op,.string ⟨t.toArray⟩,.string ⟨n.toArray⟩,.int .i64 v.k,.int .i64 v.n,.string v.s,.slice ad args.length ac],27)] yk):=by
    have:=WFr.alloc (WFr.alloc S1.out (cs:=#[.int .i64 op,.string ⟨t.toArray⟩,.string ⟨n.toArray⟩,.int .i64 v.k,.int .i64 v.n,.string v.s,.slice ad args.length ac]) (t:=27)) (cs:=#[.string ⟨#[44]⟩]) (t:=9);try simp only[World.size_alloc]at this
    exact this
   refine S1c.out.call (A4 q [[44]] _ _ S1c.out.wrt (S1c.out.env H.out HE.out).hi (slAt_parts (S1c.out.blk 0 rfl) rfl rfl (by decide)) (by simp) (by simp;omega)) ?_;intro w2 S2;have HI2:Hid (exE.In (·<base) w2 _ _):=exE.move (fun b hb hq=>⟨hq,by
    have hlt:b<w.heap.size:=Nat.lt_of_lt_of_le hq HE.out.hi;rw[(S2.out.old H.out).block b hlt (by omega),(S1.out.old H.out).block b hlt (by omega)]⟩) HIN.out
   have F2:=S2.out.tail.facts;simp only[St.Facts,cellFacts,apartFacts,and_true]at F2;clear x0 x1 x2 x3 x4 x5 x6 S1 S1c HIN;go_wp2_with fail;refine S2.out.drop.call (C1.out _ S2.out.drop HI2.out) ?_;intro w3 S3;clear S2 HI2 C1 F2;go_wp2_with fail;go_roundw
   case rel=>exact⟨k+1,by omega,by go_num,by show WFr _ _ _ _ _ _;rw[HST.out,<- List.append_assoc,<- List.append_assoc,hyk];exact S3.out⟩
   case measure=>simp[intOf];omega
  ·obtain rfl:k=l.length:=by omega
   go_wp2_with fail;go_returns;have:=S1.out.done;rw[List.take_length]at this;exact this
theorem Rs (qb:Nat) (f:Srt->List Bytes) (l:List Srt) (v:Value) (w:World) (hv:RSl srtE (·<base) w v l) (h:Wrt base w wb xs) (he:Env base w) (hq:QAt wb qb w) (hl:l.length<=1000000) (hn:xs.length+(eachP f l).length+10<=1000000000)
 (HG:Hid (∀W zs a cs,a∈l->srtE.In (·<base) W a cs->Wrt base W wb zs->Env base W->QAt wb qb W->zs.length+(f a).length+10<=1000000000->Calls prog 137 #[srtE.val cs,.pointer (some ⟨qb,0,none⟩)] W (Puts base wb W (zs++f a)))):
 Calls prog 136 #[.pointer (some ⟨wb,0,none⟩),v,.func (.func 137) #[] #[.pointer (some ⟨qb,0,none⟩)]] w (Puts base wb w (xs++eachP f l)):=by
 have H:=Lib.hid h
 have HE:=Lib.hid he
 have HQ:=Lib.hid hq
 have HN:=Lib.hid hn
 obtain⟨a0,cap0,rfl⟩:=hv.slice
 have HV:=Lib.hid hv
 have hcall:∀args w,(callFunc 137 args).run prog w=.ok (.enter 137 args) w:=enters_of func137 (by kernel_rfl) rfl
 clear h he hv hn hq
 go_enter func136,ntmps136
 go_wp2_with fail
 go_loopw [6,7,10] (fun _ _ i wr=>∃k:Nat,k<=l.length/\i=.int .i64 k/\Hid (WFr base wb w wr [] (xs++eachP f (l.take k)))) (fun _ _ i _=>l.length - (intOf i).toNat)
 case atStart=>exact⟨0,by omega,rfl,by show WFr _ _ _ _ _ _;simpa[eachP]using WFr.start H.out⟩
 case round=>
  obtain⟨k,hk,rfl,S1⟩:=hrel;by_cases hlt:k<l.length
  ·obtain⟨a,hx⟩:∃x,l[k]?=some x:=⟨l[k],by simp[hlt]⟩;have hv1:RSl srtE (·<base) wr (.slice a0 l.length cap0) l:=Ad (by decide) (fun b hb hq=>⟨hq,(S1.out.old H.out).block b hb (by omega)⟩) HV.out;obtain⟨b,o,cap,cs,hbo,hin,hat⟩:=hv1.at hx;injection hbo with e1 _ e2;subst e1;subst e2;have hst:=Gs f hx;have hle:=Kq f l (k+1);rw[hst]at hle;simp only[List.length_append]at hle;have HST:=Lib.hid hst;have HIN:Hid (srtE.In (·<base) wr a cs):=hin;have HM:=Lib.hid (List.mem_of_getElem? hx);obtain⟨q,hq⟩:∃q,decide (0<k)=q:=⟨_,rfl⟩;have hqi:decide ((0:Int)<(k:Int))=q:=by rw[<- hq];simp
   have hwl:(whenP q [[44]]).length<=1:=by cases q<;>simp[whenP]
   rw[hq]at HST hle;have hn2:=HN.out;obtain⟨fa,hfa⟩:∃fa,f a=fa:=⟨_,rfl⟩;rw[hfa]at HST hle;have C1:Hid (∀W,WFr base wb w W [] (xs++eachP f (l.take k)++whenP q [[44]])->srtE.In (·<base) W a cs->Calls prog 137 #[srtE.val cs,.pointer (some ⟨qb,0,none⟩)] W (Puts base wb W (xs++eachP f (l.take k)++whenP q [[44]]++fa))):=by
    intro W hW hiW;have:=HG.out W _ a cs HM.out hiW hW.wrt (hW.env H.out HE.out) (HQ.out.went hW.wr) (by rw[hfa];simp only[List.length_append];omega);rw[hfa]at this;exact this
   clear hfa HM hst;have h1:cs=[.int .i64 a.place,.bool a.down]:=hin;subst h1;have x0:=hat 0 _ rfl;have x1:=hat 1 _ rfl;simp only[show srtE.k=2 from rfl,Nat.add_zero]at x0 x1;change Hid (∀W,WFr base wb w W [] (xs++eachP f (l.take k)++whenP q [[44]])->srtE.In (·<base) W _ _->Calls prog 137 #[.agg #[.int .i64 a.place,.bool a.down],.pointer (some ⟨qb,0,none⟩)] W (Puts base wb W (xs++eachP f (l.take k)++whenP q [[44]]++fa)))at C1;clear hx hat hv1;generalize hyk:xs++eachP f (l.take k)=yk at *;have hyl:yk.length=xs.length+(eachP f (l.take k)).length:=by rw[<- hyk,List.length_append]
   go_wp2_with fail;have S1c:Hid (WFr base wb w ((wr.alloc (.cells #[.int .i64 a.place,.bool a.down] 156)).alloc (.cells #[.string ⟨#[44]⟩] 9)) [(wr.heap.size+1,#[.string ⟨#[44]⟩],9),(wr.heap.size,#[.int .i64 a.place,.bool a.down],156)] yk):=by
    have:=WFr.alloc (WFr.alloc S1.out (cs:=#[.int .i64 a.place,.bool a.down]) (t:=156)) (cs:=#[.string ⟨#[44]⟩]) (t:=9);try simp only[World.size_alloc]at this
    exact this
   refine S1c.out.call (A4 q [[44]] _ _ S1c.out.wrt (S1c.out.env H.out HE.out).hi (slAt_parts (S1c.out.blk 0 rfl) rfl rfl (by decide)) (by simp) (by simp;omega)) ?_;intro w2 S2;have HI2:Hid (srtE.In (·<base) w2 _ _):=srtE.move (fun b hb hq=>⟨hq,by
    have hlt:b<w.heap.size:=Nat.lt_of_lt_of_le hq HE.out.hi;rw[(S2.out.old H.out).block b hlt (by omega),(S1.out.old H.out).block b hlt (by omega)]⟩) HIN.out
   have F2:=S2.out.tail.facts;simp only[St.Facts,cellFacts,apartFacts,and_true]at F2;clear x0 x1 S1 S1c HIN;go_wp2_with fail;refine S2.out.drop.call (C1.out _ S2.out.drop HI2.out) ?_;intro w3 S3;clear S2 HI2 C1 F2;go_wp2_with fail;go_roundw
   case rel=>exact⟨k+1,by omega,by go_num,by show WFr _ _ _ _ _ _;rw[HST.out,<- List.append_assoc,<- List.append_assoc,hyk];exact S3.out⟩
   case measure=>simp[intOf];omega
  ·obtain rfl:k=l.length:=by omega
   go_wp2_with fail;go_returns;have:=S1.out.done;rw[List.take_length]at this;exact this
end Go.Proofs.YtjmmbebkbkgefaaGreatDoor
